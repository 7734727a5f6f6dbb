/- A part of the proof of FnLayers. -/
import Derived.Test.YtcfpninklbnifaaQLYH
import Derived.Test.YtcfpninklbnifaaQLY0
import Derived.Test.YtcfpninklbnifaaQLY1
/- Draws: numbers that follow from a code. -/
namespace Go.Proofs.Ytcfpninklbnifaa
set_option linter.unusedSimpArgs false
set_option linter.unusedVariables false
set_option maxRecDepth 20000
set_option maxHeartbeats 1000000
open Go.Abs

/-- The code of a source: nil, or bytes in a block of their own. -/
inductive Cd (h : List Blk) (b : Nat) : Value → Nat → (Nat → UInt8) → Prop
  | nil (f : Nat → UInt8) : Cd h b (.slice none 0 0) 0 f
  | sl (f : Nat → UInt8) {bc n : Nat} {rc : Bool} (hb : h[bc]? = some ⟨Bs n f, rc⟩) (hne : bc ≠ b) : Cd h b (sl bc 0 n 1) n f
theorem Cd.set {h : List Blk} {b n : Nat} {cv : Value} {f : Nat → UInt8} (c : Cd h b cv n f) (x : Blk) : Cd (h.set b x) b cv n f := by
  cases c with
  | nil => exact .nil f
  | sl _ hb hne => exact .sl f (set_at hb hne.symm) hne
theorem Cd.app {h : List Blk} {b n : Nat} {cv : Value} {f : Nat → UInt8} (c : Cd h b cv n f) (L : List Blk) : Cd (h ++ L) b cv n f := by
  cases c with
  | nil => exact .nil f
  | sl _ hb hne => exact .sl f (look_old hb L) hne
/-- A source's block. -/
def Src (h : List Blk) (b : Nat) (cv : Value) (k : Blk) : Prop := ∃ (at' : Nat) (hs : Int) (n : Nat) (f : Nat → UInt8), k = ⟨Sr cv at' hs, true⟩ ∧ at' ≤ n ∧ n ≤ 4096 ∧ Cd h b cv n f
theorem Src.set {h : List Blk} {b : Nat} {cv : Value} {k : Blk} (s : Src h b cv k) (x : Blk) : Src (h.set b x) b cv k := by
  obtain ⟨a, hs, n, f, e, h1, h2, c⟩ := s
  exact ⟨a, hs, n, f, e, h1, h2, c.set x⟩
theorem Src.app {h : List Blk} {b : Nat} {cv : Value} {k : Blk} (s : Src h b cv k) (L : List Blk) : Src (h ++ L) b cv k := by
  obtain ⟨a, hs, n, f, e, h1, h2, c⟩ := s
  exact ⟨a, hs, n, f, e, h1, h2, c.app L⟩
theorem set_app {h : List Blk} {b : Nat} (hb : b < h.length) (x : Blk) (L : List Blk) : (h ++ L).set b x = h.set b x ++ L := List.set_append_left _ _ hb

def nxH (hs : Int) : Int := IntKind.u64.wrap (IntKind.u64.wrap (hs * 6364136223846793005) + 1442695040888963407)
theorem and24 (x : Int) : ∃ q : Nat, q < 16777216 ∧ bits .and .u64 x 16777215 = ((q : Nat) : Int) := by
  refine ⟨((BitVec.ofInt 64 x) &&& (BitVec.ofInt 64 16777215)).toNat, ?_, ?_⟩
  · rw [BitVec.toNat_and]
    have : (BitVec.ofInt 64 16777215).toNat = 16777215 := by decide
    rw [this]
    exact Nat.lt_of_le_of_lt Nat.and_le_right (by omega)
  · show IntKind.u64.wrap ((((BitVec.ofInt 64 x) &&& (BitVec.ofInt 64 16777215)).toNat : Nat) : Int) = _
    have h1 : ((BitVec.ofInt 64 x) &&& (BitVec.ofInt 64 16777215)).toNat < 2 ^ 64 := BitVec.isLt _
    exact wrap_u64 (by omega) (by omega)
theorem next_ex {h : List Blk} {b : Nat} {cv : Value} {k : Blk} (hb : h[b]? = some k) (hk : Src h b cv k) {N : Nat} (hN : 0 < N) (hN2 : N ≤ 1125899906842624) :
    ∃ (x : Nat) (k' : Blk), x < N ∧ Src h b cv k' ∧ AC Try.prog 53 [pt b 0, .int .i64 N] h (.int .i64 x) (h.set b k') := by
  obtain ⟨a, hs, n, f, rfl, h1, h2, c⟩ := hk
  have hbl := blt hb
  obtain ⟨q, hq, e⟩ := and24 ((nxH hs).fdiv (2 ^ (min 33 64)))
  cases c with
  | nil =>
    refine ⟨q % N, ⟨Sr (.slice none 0 0) a (nxH hs), true⟩, Nat.mod_lt _ hN, ⟨a, _, 0, f, rfl, h1, h2, .nil f⟩, ?_⟩
    have hz : decide (N < 1) = false := decide_eq_false (by omega)
    have ha : decide (a < 0) = false := decide_eq_false (by omega)
    (refine AC_begin (fun _ _ => Try.call53 _ _) Try.func53 rfl Try.ntmps53 Try.results53 (fun hwf => ?_); simp only [List.length_cons, List.length_nil, Nat.reduceAdd, Nat.reduceSub, List.replicate, List.cons_append, List.nil_append])
    (repeat (first | ((first | (refine And.intro ?_ ?_; focus exact PLA) | refine WA_seq (WA_region ?_) | refine WA_region ?_ | refine WA_exit ?_); try simp (maxSteps := 1000000) (disch := first | omega | rfl | decide | (simp only [List.length_cons, List.length_nil, List.length_append, LV] <;> omega)) only [go_sem, Nat.reduceAdd, Int.reduceAdd, Int.reduceSub, Int.reduceMul, Bool.not_true, Bool.not_false, hb, look_set hbl, List.set_set, hz, ha, show IntKind.u64.wrap (IntKind.u64.wrap (hs * 6364136223846793005) + 1442695040888963407) = nxH hs from rfl, e]) | (refine WA_seq (WA_draw (id := 5) mixedOk (by kernel_rfl) ?_); simp (maxSteps := 1000000) (disch := first | omega | rfl | decide | (simp only [List.length_cons, List.length_nil, List.length_append, LV] <;> omega)) only [go_sem, Nat.reduceAdd, Int.reduceAdd, Int.reduceSub, Int.reduceMul, Bool.not_true, Bool.not_false, hb, look_set hbl, List.set_set, hz, ha, show IntKind.u64.wrap (IntKind.u64.wrap (hs * 6364136223846793005) + 1442695040888963407) = nxH hs from rfl, e]) | (refine WA_draw (id := 5) mixedOk (by kernel_rfl) ?_; simp (maxSteps := 1000000) (disch := first | omega | rfl | decide | (simp only [List.length_cons, List.length_nil, List.length_append, LV] <;> omega)) only [go_sem, Nat.reduceAdd, Int.reduceAdd, Int.reduceSub, Int.reduceMul, Bool.not_true, Bool.not_false, hb, look_set hbl, List.set_set, hz, ha, show IntKind.u64.wrap (IntKind.u64.wrap (hs * 6364136223846793005) + 1442695040888963407) = nxH hs from rfl, e]) | (refine WA_seq (WA_draw (id := 6) mixedOk (by kernel_rfl) ?_); simp (maxSteps := 1000000) (disch := first | omega | rfl | decide | (simp only [List.length_cons, List.length_nil, List.length_append, LV] <;> omega)) only [go_sem, Nat.reduceAdd, Int.reduceAdd, Int.reduceSub, Int.reduceMul, Bool.not_true, Bool.not_false, hb, look_set hbl, List.set_set, hz, ha, show IntKind.u64.wrap (IntKind.u64.wrap (hs * 6364136223846793005) + 1442695040888963407) = nxH hs from rfl, e]) | (refine WA_draw (id := 6) mixedOk (by kernel_rfl) ?_; simp (maxSteps := 1000000) (disch := first | omega | rfl | decide | (simp only [List.length_cons, List.length_nil, List.length_append, LV] <;> omega)) only [go_sem, Nat.reduceAdd, Int.reduceAdd, Int.reduceSub, Int.reduceMul, Bool.not_true, Bool.not_false, hb, look_set hbl, List.set_set, hz, ha, show IntKind.u64.wrap (IntKind.u64.wrap (hs * 6364136223846793005) + 1442695040888963407) = nxH hs from rfl, e]) | refine WA_seq ?_ | refine WA_block ?_ | (refine WA_skip ?_; try simp only [go_sem]) | (refine WA_ret ?_; try simp only [go_sem]) | refine WA_ct rfl ?_ | refine WA_cf rfl ?_))
    ((first | refine ret_nA ?_ | refine ret_sA ?_ | refine ret_fA ?_); simp (maxSteps := 1000000) (disch := first | omega | rfl | decide | (simp only [List.length_cons, List.length_nil, List.length_append, LV] <;> omega)) only [go_sem, Nat.reduceAdd, Int.reduceAdd, Int.reduceSub, Int.reduceMul, Bool.not_true, Bool.not_false]; try rfl)
  | sl _ hc hne =>
    have hc2 := fun (x : Blk) => set_at (x := x) hc hne.symm
    have hz : decide (N < 1) = false := decide_eq_false (by omega)
    by_cases ha : a < n
    · have hf := u8_lt (f a)
      refine ⟨(q + (f a).toNat) % N, ⟨Sr _ ((a + 1 : Nat) : Int) (nxH hs), true⟩, Nat.mod_lt _ hN, ⟨a + 1, _, n, f, rfl, by omega, h2, .sl f hc hne⟩, ?_⟩
      (refine AC_begin (fun _ _ => Try.call53 _ _) Try.func53 rfl Try.ntmps53 Try.results53 (fun hwf => ?_); simp only [List.length_cons, List.length_nil, Nat.reduceAdd, Nat.reduceSub, List.replicate, List.cons_append, List.nil_append])
      (repeat (first | ((first | (refine And.intro ?_ ?_; focus exact PLA) | refine WA_seq (WA_region ?_) | refine WA_region ?_ | refine WA_exit ?_); try simp (maxSteps := 1000000) (disch := first | omega | rfl | decide | (simp only [List.length_cons, List.length_nil, List.length_append, LV] <;> omega)) only [go_sem, Nat.reduceAdd, Int.reduceAdd, Int.reduceSub, Int.reduceMul, Bool.not_true, Bool.not_false, hb, look_set hbl, List.set_set, hc2, hz, decide_eq_true ha, show IntKind.u64.wrap (IntKind.u64.wrap (hs * 6364136223846793005) + 1442695040888963407) = nxH hs from rfl, e]) | (refine WA_seq (WA_draw (id := 5) mixedOk (by kernel_rfl) ?_); simp (maxSteps := 1000000) (disch := first | omega | rfl | decide | (simp only [List.length_cons, List.length_nil, List.length_append, LV] <;> omega)) only [go_sem, Nat.reduceAdd, Int.reduceAdd, Int.reduceSub, Int.reduceMul, Bool.not_true, Bool.not_false, hb, look_set hbl, List.set_set, hc2, hz, decide_eq_true ha, show IntKind.u64.wrap (IntKind.u64.wrap (hs * 6364136223846793005) + 1442695040888963407) = nxH hs from rfl, e]) | (refine WA_draw (id := 5) mixedOk (by kernel_rfl) ?_; simp (maxSteps := 1000000) (disch := first | omega | rfl | decide | (simp only [List.length_cons, List.length_nil, List.length_append, LV] <;> omega)) only [go_sem, Nat.reduceAdd, Int.reduceAdd, Int.reduceSub, Int.reduceMul, Bool.not_true, Bool.not_false, hb, look_set hbl, List.set_set, hc2, hz, decide_eq_true ha, show IntKind.u64.wrap (IntKind.u64.wrap (hs * 6364136223846793005) + 1442695040888963407) = nxH hs from rfl, e]) | (refine WA_seq (WA_draw (id := 6) mixedOk (by kernel_rfl) ?_); simp (maxSteps := 1000000) (disch := first | omega | rfl | decide | (simp only [List.length_cons, List.length_nil, List.length_append, LV] <;> omega)) only [go_sem, Nat.reduceAdd, Int.reduceAdd, Int.reduceSub, Int.reduceMul, Bool.not_true, Bool.not_false, hb, look_set hbl, List.set_set, hc2, hz, decide_eq_true ha, show IntKind.u64.wrap (IntKind.u64.wrap (hs * 6364136223846793005) + 1442695040888963407) = nxH hs from rfl, e]) | (refine WA_draw (id := 6) mixedOk (by kernel_rfl) ?_; simp (maxSteps := 1000000) (disch := first | omega | rfl | decide | (simp only [List.length_cons, List.length_nil, List.length_append, LV] <;> omega)) only [go_sem, Nat.reduceAdd, Int.reduceAdd, Int.reduceSub, Int.reduceMul, Bool.not_true, Bool.not_false, hb, look_set hbl, List.set_set, hc2, hz, decide_eq_true ha, show IntKind.u64.wrap (IntKind.u64.wrap (hs * 6364136223846793005) + 1442695040888963407) = nxH hs from rfl, e]) | refine WA_seq ?_ | refine WA_block ?_ | (refine WA_skip ?_; try simp only [go_sem]) | (refine WA_ret ?_; try simp only [go_sem]) | refine WA_ct rfl ?_ | refine WA_cf rfl ?_))
      ((first | refine ret_nA ?_ | refine ret_sA ?_ | refine ret_fA ?_); simp (maxSteps := 1000000) (disch := first | omega | rfl | decide | (simp only [List.length_cons, List.length_nil, List.length_append, LV] <;> omega)) only [go_sem, Nat.reduceAdd, Int.reduceAdd, Int.reduceSub, Int.reduceMul, Bool.not_true, Bool.not_false]; try rfl)
    · refine ⟨q % N, ⟨Sr _ a (nxH hs), true⟩, Nat.mod_lt _ hN, ⟨a, _, n, f, rfl, h1, h2, .sl f hc hne⟩, ?_⟩
      (refine AC_begin (fun _ _ => Try.call53 _ _) Try.func53 rfl Try.ntmps53 Try.results53 (fun hwf => ?_); simp only [List.length_cons, List.length_nil, Nat.reduceAdd, Nat.reduceSub, List.replicate, List.cons_append, List.nil_append])
      (repeat (first | ((first | (refine And.intro ?_ ?_; focus exact PLA) | refine WA_seq (WA_region ?_) | refine WA_region ?_ | refine WA_exit ?_); try simp (maxSteps := 1000000) (disch := first | omega | rfl | decide | (simp only [List.length_cons, List.length_nil, List.length_append, LV] <;> omega)) only [go_sem, Nat.reduceAdd, Int.reduceAdd, Int.reduceSub, Int.reduceMul, Bool.not_true, Bool.not_false, hb, look_set hbl, List.set_set, hz, decide_eq_false ha, show IntKind.u64.wrap (IntKind.u64.wrap (hs * 6364136223846793005) + 1442695040888963407) = nxH hs from rfl, e]) | (refine WA_seq (WA_draw (id := 5) mixedOk (by kernel_rfl) ?_); simp (maxSteps := 1000000) (disch := first | omega | rfl | decide | (simp only [List.length_cons, List.length_nil, List.length_append, LV] <;> omega)) only [go_sem, Nat.reduceAdd, Int.reduceAdd, Int.reduceSub, Int.reduceMul, Bool.not_true, Bool.not_false, hb, look_set hbl, List.set_set, hz, decide_eq_false ha, show IntKind.u64.wrap (IntKind.u64.wrap (hs * 6364136223846793005) + 1442695040888963407) = nxH hs from rfl, e]) | (refine WA_draw (id := 5) mixedOk (by kernel_rfl) ?_; simp (maxSteps := 1000000) (disch := first | omega | rfl | decide | (simp only [List.length_cons, List.length_nil, List.length_append, LV] <;> omega)) only [go_sem, Nat.reduceAdd, Int.reduceAdd, Int.reduceSub, Int.reduceMul, Bool.not_true, Bool.not_false, hb, look_set hbl, List.set_set, hz, decide_eq_false ha, show IntKind.u64.wrap (IntKind.u64.wrap (hs * 6364136223846793005) + 1442695040888963407) = nxH hs from rfl, e]) | (refine WA_seq (WA_draw (id := 6) mixedOk (by kernel_rfl) ?_); simp (maxSteps := 1000000) (disch := first | omega | rfl | decide | (simp only [List.length_cons, List.length_nil, List.length_append, LV] <;> omega)) only [go_sem, Nat.reduceAdd, Int.reduceAdd, Int.reduceSub, Int.reduceMul, Bool.not_true, Bool.not_false, hb, look_set hbl, List.set_set, hz, decide_eq_false ha, show IntKind.u64.wrap (IntKind.u64.wrap (hs * 6364136223846793005) + 1442695040888963407) = nxH hs from rfl, e]) | (refine WA_draw (id := 6) mixedOk (by kernel_rfl) ?_; simp (maxSteps := 1000000) (disch := first | omega | rfl | decide | (simp only [List.length_cons, List.length_nil, List.length_append, LV] <;> omega)) only [go_sem, Nat.reduceAdd, Int.reduceAdd, Int.reduceSub, Int.reduceMul, Bool.not_true, Bool.not_false, hb, look_set hbl, List.set_set, hz, decide_eq_false ha, show IntKind.u64.wrap (IntKind.u64.wrap (hs * 6364136223846793005) + 1442695040888963407) = nxH hs from rfl, e]) | refine WA_seq ?_ | refine WA_block ?_ | (refine WA_skip ?_; try simp only [go_sem]) | (refine WA_ret ?_; try simp only [go_sem]) | refine WA_ct rfl ?_ | refine WA_cf rfl ?_))
      ((first | refine ret_nA ?_ | refine ret_sA ?_ | refine ret_fA ?_); simp (maxSteps := 1000000) (disch := first | omega | rfl | decide | (simp only [List.length_cons, List.length_nil, List.length_append, LV] <;> omega)) only [go_sem, Nat.reduceAdd, Int.reduceAdd, Int.reduceSub, Int.reduceMul, Bool.not_true, Bool.not_false]; try rfl)

end Go.Proofs.Ytcfpninklbnifaa
/- Draws of fields, bytes and numbers. -/
namespace Go.Proofs.Ytcfpninklbnifaa
set_option linter.unusedSimpArgs false
set_option linter.unusedVariables false
set_option maxRecDepth 20000
set_option maxHeartbeats 1000000
open Go.Abs

def SrcAt (h : List Blk) (b : Nat) (cv : Value) : Prop := ∃ k, h[b]? = some k ∧ Src h b cv k
/-- What a draw leaves of memory. -/
structure Aft (h h' : List Blk) (b : Nat) (cv : Value) : Prop where
  src : SrcAt h' b cv
  keep : ∀ (i : Nat) (x : Blk), i ≠ b → h[i]? = some x → h'[i]? = some x
  app : ∀ h0 : List Blk, h0.length ≤ b → (∃ L, h = h0 ++ L) → ∃ L, h' = h0 ++ L
  len : h.length ≤ h'.length
theorem SrcAt.lt {h : List Blk} {b : Nat} {cv : Value} (s : SrcAt h b cv) : b < h.length := by obtain ⟨k, hb, _⟩ := s; exact blt hb
theorem SrcAt.more {h : List Blk} {b : Nat} {cv : Value} (s : SrcAt h b cv) (L : List Blk) : Aft h (h ++ L) b cv := by
  obtain ⟨k, hb, hk⟩ := s
  exact ⟨⟨k, look_old hb L, hk.app L⟩, fun _ _ _ hx => look_old hx L, fun h0 _ ⟨A, e⟩ => ⟨A ++ L, by rw [e, List.append_assoc]⟩, by simp⟩
theorem Aft.trans {h h' h'' : List Blk} {b : Nat} {cv : Value} (x : Aft h h' b cv) (y : Aft h' h'' b cv) : Aft h h'' b cv :=
  ⟨y.src, fun i k hi hx => y.keep i k hi (x.keep i k hi hx), fun h0 hl e => y.app h0 hl (x.app h0 hl e), Nat.le_trans x.len y.len⟩
theorem app_set' {h0 L : List Blk} {i : Nat} (hi : h0.length ≤ i) (x : Blk) : ∃ L', (h0 ++ L).set i x = h0 ++ L' := ⟨L.set (i - h0.length) x, List.set_append_right _ _ hi⟩
theorem aft_set {h : List Blk} {b : Nat} {cv : Value} {k : Blk} (hl : b < h.length) (hk : Src h b cv k) : Aft h (h.set b k) b cv :=
  ⟨⟨k, look_set hl, hk.set k⟩, fun i x hi hx => set_at hx hi.symm, fun h0 hb ⟨L, e⟩ => by subst e; exact app_set' hb k, by simp⟩
def isI : Value → Bool
  | .int .i64 _ => true
  | _ => false
theorem ints_at : ∀ {cs : List Value} {n : Nat}, cs.all isI = true → n ≤ cs.length → ∀ i, i < n → ∃ v, cs[i]? = some (.int .i64 v)
  | [], n, _, h, i, hi => absurd h (by simp; omega)
  | c :: cs, n, h, hl, i, hi => by
    rw [List.all_cons, Bool.and_eq_true] at h
    cases i with
    | zero =>
      cases c with
      | int k v => cases k <;> first | exact ⟨v, rfl⟩ | exact absurd h.1 (by simp [isI])
      | _ => exact absurd h.1 (by simp [isI])
    | succ i => exact ints_at (cs := cs) (n := n - 1) h.2 (by simp at hl; omega) i (by omega)
theorem next_aft {h : List Blk} {b : Nat} {cv : Value} (s : SrcAt h b cv) {N : Nat} (hN : 0 < N) (hN2 : N ≤ 1125899906842624) :
    ∃ (x : Nat) (h' : List Blk), x < N ∧ Aft h h' b cv ∧ AC Try.prog 53 [pt b 0, .int .i64 N] h (.int .i64 x) h' := by
  obtain ⟨k, hb, hk⟩ := s
  obtain ⟨x, k', hx, hk', hc⟩ := next_ex hb hk hN hN2
  exact ⟨x, _, hx, aft_set (blt hb) hk', hc⟩

theorem pick_aft {h : List Blk} {b : Nat} {cv : Value} (s : SrcAt h b cv) {bl n : Nat} {cs : List Value} {r : Bool} (hl : h[bl]? = some ⟨cs, r⟩) (hne : bl ≠ b) (hn : 0 < n) (hn2 : n ≤ 1000) (hcs : ∀ i, i < n → ∃ v, cs[i]? = some (.int .i64 v)) :
    ∃ (v : Int) (h' : List Blk), (∃ i, i < n ∧ cs[i]? = some (.int .i64 v)) ∧ Aft h h' b cv ∧ AC Try.prog 107 [pt b 0, sl bl 0 n 1] h (.int .i64 v) h' := by
  obtain ⟨x, h1, hx, a1, c1⟩ := next_aft s hn (by omega)
  obtain ⟨v, hv⟩ := hcs x hx
  have hl1 := a1.keep _ _ hne hl
  refine ⟨v, h1, ⟨x, hx, hv⟩, a1, ?_⟩
  have hlen := a1.len
  (refine AC_begin (fun _ _ => Try.call107 _ _) Try.func107 rfl Try.ntmps107 Try.results107 (fun hwf => ?_); simp only [List.length_cons, List.length_nil, Nat.reduceAdd, Nat.reduceSub, List.replicate, List.cons_append, List.nil_append])
  (repeat (first | ((first | (refine And.intro ?_ ?_; focus exact PLA) | ((first | with_reducible apply callB_i | with_reducible apply callK_intro | with_reducible apply callQ_i); (focus (first | assumption | (with_reducible apply c1 <;> (first | assumption | rfl | (simp (disch := omega) only [go_sem]; first | done | rfl) | omega | decide | (simp; done))))); (try exact WP_au)) | refine WA_seq (WA_region ?_) | refine WA_region ?_ | refine WA_exit ?_); try simp (maxSteps := 1000000) (disch := first | omega | rfl | decide | (simp only [List.length_cons, List.length_nil, List.length_append, LV] <;> omega)) only [go_sem, Nat.reduceAdd, Int.reduceAdd, Int.reduceSub, Int.reduceMul, Bool.not_true, Bool.not_false, hl1, hv]) | refine WA_seq ?_ | refine WA_block ?_ | (refine WA_skip ?_; try simp only [go_sem]) | (refine WA_ret ?_; try simp only [go_sem]) | refine WA_ct rfl ?_ | refine WA_cf rfl ?_))
  refine ret_full (by first | exact .inr rfl | exact .inl rfl) hlen ?_
  simp (maxSteps := 1000000) (disch := first | omega | rfl | decide | (simp only [List.length_cons, List.length_nil, List.length_append, LV] <;> omega)) only [go_sem, Nat.reduceAdd, Int.reduceAdd, Int.reduceSub, Int.reduceMul, Bool.not_true, Bool.not_false]
  try rfl

theorem pickL_aft {h : List Blk} {b : Nat} {cv : Value} (s : SrcAt h b cv) (cs : List Value) {n : Nat} (hi : cs.all isI = true) (hcl : cs.length = n) (hn : 0 < n) (hn2 : n ≤ 1000) :
    ∃ (v : Int) (h' : List Blk), (∃ i, i < n ∧ cs[i]? = some (.int .i64 v)) ∧ Aft h h' b cv ∧ AC Try.prog 107 [pt b 0, sl h.length 0 n 1] (h ++ [⟨cs, true⟩]) (.int .i64 v) h' := by
  have a0 := s.more [⟨cs, true⟩]
  obtain ⟨v, h', e, a1, c⟩ := pick_aft a0.src (bl := h.length) (n := n) (cs := cs) (r := true) (by simp) (by have := s.lt; omega) hn hn2 (ints_at hi (by omega))
  exact ⟨v, h', e, a0.trans a1, c⟩

/-- The fields among the first k numbers from 256 on. -/
def fl : Nat → List Int
  | 0 => []
  | k + 1 => if fieldB (256 + k) then fl k ++ [((256 + k : Nat) : Int)] else fl k
theorem fl_t {k : Nat} (h : fieldB (256 + k) = true) : fl (k + 1) = fl k ++ [((256 + k : Nat) : Int)] := by rw [fl, if_pos h]
theorem fl_f {k : Nat} (h : fieldB (256 + k) = false) : fl (k + 1) = fl k := by rw [fl, h]; rfl
theorem fl_le : ∀ k, (fl k).length ≤ k
  | 0 => Nat.le_refl 0
  | k + 1 => by have := fl_le k; unfold fl; split <;> simp <;> omega
/-- All fields. -/
def FL : List Int := fl 256
theorem FL_pos : 0 < FL.length := by decide +kernel
theorem FL_le : FL.length ≤ 256 := fl_le 256
theorem FL_eq : fl 256 = FL := rfl
attribute [irreducible] FL
theorem Il_snoc (l : List Int) (x : Int) : Il l ++ [.int .i64 x] = Il (l ++ [x]) := by unfold Il; rw [List.map_append]; rfl
theorem Il_isI (l : List Int) : (Il l).all isI = true := by
  unfold Il; rw [List.all_map, List.all_eq_true]; intro x _; rfl
theorem fieldsS_ac (h : List Blk) : AC Try.prog 127 [] h (sl h.length 0 FL.length 1) (h ++ [⟨Il FL, true⟩]) := by
  rw [← FL_eq]
  (refine AC_begin (fun _ _ => Try.call127 _ _) Try.func127 rfl Try.ntmps127 Try.results127 (fun hwf => ?_); simp only [List.length_cons, List.length_nil, Nat.reduceAdd, Nat.reduceSub, List.replicate, List.cons_append, List.nil_append])
  (repeat (first | ((first | (refine And.intro ?_ ?_; focus exact PLA) | refine WA_seq (WA_region ?_) | refine WA_region ?_ | refine WA_exit ?_); try simp (maxSteps := 1000000) (disch := first | omega | rfl | decide | (simp only [List.length_cons, List.length_nil, List.length_append, LV] <;> omega)) only [go_sem, Nat.reduceAdd, Int.reduceAdd, Int.reduceSub, Int.reduceMul, Bool.not_true, Bool.not_false]) | refine WA_seq ?_ | refine WA_block ?_ | (refine WA_skip ?_; try simp only [go_sem]) | (refine WA_ret ?_; try simp only [go_sem]) | refine WA_ct rfl ?_ | refine WA_cf rfl ?_))
  refine WA_forP (fun k => [(1, sl h.length 0 (fl k).length 1), (2, .int .i64 ((256 + k : Nat) : Int)), (3, J), (4, J), (5, J), (6, J), (7, J), (8, J), (9, J), (10, J), (11, J), (12, J), (13, J)]) (fun k => [(0, ⟨Il (fl k), true⟩)]) (256) ?_ ?_ ?_ <;> (try simp only [patT_cons, patT_nil, patL_cons, patL_nil, list_set_zero, list_set_succ, blk_set_zero, blk_set_succ])
  · (refine Drop_slots (by first | exact Nat.le_refl _ | simp) ?_; focus ((try simp only [JL_same, JL_J, JL_nil, Int.reduceAdd, Nat.sub_sub, Int.natCast_add, Int.natCast_one, Int.natCast_zero, Int.cast_ofNat_Int, Nat.add_zero, Bool.false_eq_true, if_false, if_true, show (fl 0).length = 0 from rfl]); (try exact JL_refl _)))
  · intro k hk
    have hle := fl_le k
    cases hf : fieldB (256 + k)
    · (repeat (first | ((first | (refine And.intro ?_ ?_; focus exact PLA) | ((first | with_reducible apply callB_i | with_reducible apply callK_intro | with_reducible apply callQ_i); (focus (first | assumption | (with_reducible apply fieldS_ac <;> (first | assumption | rfl | (simp (disch := omega) only [go_sem]; first | done | rfl) | omega | decide | (simp; done))))); (try exact WP_au)) | refine WA_seq (WA_region ?_) | refine WA_region ?_ | refine WA_exit ?_); try simp (maxSteps := 1000000) (disch := first | omega | rfl | decide | (simp only [List.length_cons, List.length_nil, List.length_append, LV] <;> omega)) only [go_sem, Nat.reduceAdd, Int.reduceAdd, Int.reduceSub, Int.reduceMul, Bool.not_true, Bool.not_false, Int.toNat_natCast, hf]) | refine WA_seq ?_ | refine WA_block ?_ | (refine WA_skip ?_; try simp only [go_sem]) | (refine WA_ret ?_; try simp only [go_sem]) | refine WA_ct rfl ?_ | refine WA_cf rfl ?_))
      rw [fl_f hf]
      (refine Drop_slots (by first | exact Nat.le_refl _ | simp) ?_; focus ((try simp only [JL_same, JL_J, JL_nil, Int.reduceAdd, Nat.sub_sub, Int.natCast_add, Int.natCast_one, Int.natCast_zero, Int.cast_ofNat_Int, Nat.add_zero, Bool.false_eq_true, if_false, if_true, Nat.add_assoc]); (try exact JL_refl _)))
    · (repeat (first | ((first | (refine And.intro ?_ ?_; focus exact PLA) | ((first | with_reducible apply callB_i | with_reducible apply callK_intro | with_reducible apply callQ_i); (focus (first | assumption | (with_reducible apply fieldS_ac <;> (first | assumption | rfl | (simp (disch := omega) only [go_sem]; first | done | rfl) | omega | decide | (simp; done))))); (try exact WP_au)) | refine WA_seq (WA_region ?_) | refine WA_region ?_ | refine WA_exit ?_); try simp (maxSteps := 1000000) (disch := first | omega | rfl | decide | (simp only [List.length_cons, List.length_nil, List.length_append, LV] <;> omega)) only [go_sem, Nat.reduceAdd, Int.reduceAdd, Int.reduceSub, Int.reduceMul, Bool.not_true, Bool.not_false, Int.toNat_natCast, hf, lit1I, sub1, Il_snoc]) | refine WA_seq ?_ | refine WA_block ?_ | (refine WA_skip ?_; try simp only [go_sem]) | (refine WA_ret ?_; try simp only [go_sem]) | refine WA_ct rfl ?_ | refine WA_cf rfl ?_))
      rw [fl_t hf, List.length_append]
      (refine Drop_gc [2] (by first | exact Nat.le_refl _ | first | assumption | omega | (simp only [List.length_append, List.length_cons, List.length_nil, List.length_replicate]; omega)) (by assumption) (by decide) ?_ ?_; (focus (repeat (first | exact trivial | (refine And.intro ⟨_, rfl, ?_⟩ ?_; (focus first | (refine Fit_plain ?_; simp only [go_sem, List.all_append, List.all_cons, List.all_nil, Bool.and_self]; done) | exact Fit_nil rfl | exact Fit_dead | (refine Fit_eq ?_ ?_; (focus simp only [go_sem, List.all_append, List.all_cons, List.all_nil, Bool.and_self]); (focus (first | rfl | (simp only [Int.natCast_add, Int.natCast_one, Int.natCast_zero, Int.cast_ofNat_Int, Nat.add_zero, Nat.add_assoc]; done) | (simp only [Int.natCast_add, Int.natCast_one, Int.natCast_zero, Int.cast_ofNat_Int, Nat.add_zero, Nat.add_assoc]; rfl))))))))); (focus (repeat (first | exact JR_nil | refine JR_J ?_ | (refine JR_plain ?_ ?_; (focus first | rfl | (refine plain_agg ?_; simp only [go_sem, List.all_append, List.all_cons, List.all_nil, Bool.and_self]; done))) | ((first | refine JR_pt ?_ ?_ ?_ | refine JR_sl ?_ ?_ ?_); (focus first | (rw [rhoF_new0]; rfl) | (rw [rhoF_new]; rfl) | (rw [rhoF_old]; first | assumption | omega)); (focus first | assumption | omega | (simp only [List.length_append, List.length_cons, List.length_nil, List.length_replicate]; omega))) | (refine JR_plain' ?_ ?_ ?_; (focus first | rfl | (refine plain_agg ?_; simp only [go_sem, List.all_append, List.all_cons, List.all_nil, Bool.and_self]; done)); (focus (first | rfl | (simp only [Int.natCast_add, Int.natCast_one, Int.natCast_zero, Int.cast_ofNat_Int, Nat.add_zero, Nat.add_assoc]; done) | (simp only [Int.natCast_add, Int.natCast_one, Int.natCast_zero, Int.cast_ofNat_Int, Nat.add_zero, Nat.add_assoc]; rfl)))) | (refine JR_sl' ?_ ?_ ?_ ?_; (focus first | (rw [rhoF_new0]; rfl) | (rw [rhoF_new]; rfl) | (rw [rhoF_old]; first | assumption | omega)); (focus first | assumption | omega | (simp only [List.length_append, List.length_cons, List.length_nil, List.length_replicate]; omega)); (focus first | rfl | omega | (first | rfl | (simp only [Int.natCast_add, Int.natCast_one, Int.natCast_zero, Int.cast_ofNat_Int, Nat.add_zero, Nat.add_assoc]; done) | (simp only [Int.natCast_add, Int.natCast_one, Int.natCast_zero, Int.cast_ofNat_Int, Nat.add_zero, Nat.add_assoc]; rfl))))))))
  · (repeat (first | ((first | (refine And.intro ?_ ?_; focus exact PLA) | refine WA_seq (WA_region ?_) | refine WA_region ?_ | refine WA_exit ?_); try simp (maxSteps := 1000000) (disch := first | omega | rfl | decide | (simp only [List.length_cons, List.length_nil, List.length_append, LV] <;> omega)) only [go_sem, Nat.reduceAdd, Int.reduceAdd, Int.reduceSub, Int.reduceMul, Bool.not_true, Bool.not_false]) | refine WA_seq ?_ | refine WA_block ?_ | (refine WA_skip ?_; try simp only [go_sem]) | (refine WA_ret ?_; try simp only [go_sem]) | refine WA_ct rfl ?_ | refine WA_cf rfl ?_))
    ((first | refine ret_nA ?_ | refine ret_sA ?_ | refine ret_fA ?_); simp (maxSteps := 1000000) (disch := first | omega | rfl | decide | (simp only [List.length_cons, List.length_nil, List.length_append, LV] <;> omega)) only [go_sem, Nat.reduceAdd, Int.reduceAdd, Int.reduceSub, Int.reduceMul, Bool.not_true, Bool.not_false]; try rfl)

/-- A code, as an argument. -/
inductive Cv (h : List Blk) : Value → Prop
  | nil : Cv h (.slice none 0 0)
  | sl {bc n : Nat} {f : Nat → UInt8} {rc : Bool} (hb : h[bc]? = some ⟨Bs n f, rc⟩) (hn : n ≤ 4096) : Cv h (sl bc 0 n 1)
theorem Cv.app {h : List Blk} {cv : Value} (c : Cv h cv) (L : List Blk) : Cv (h ++ L) cv := by
  cases c with
  | nil => exact .nil
  | sl hb hn => exact .sl (look_old hb L) hn
/-- The state of a source after k bytes. -/
def frH (s0 : Int) (f : Nat → UInt8) : Nat → Int
  | 0 => s0
  | k + 1 => IntKind.u64.wrap (IntKind.u64.wrap (IntKind.u64.wrap (frH s0 f k * 1099511628211) + ((f k).toNat : Int)) + 11)
theorem from_aft {h : List Blk} {cv : Value} (c : Cv h cv) : ∃ h', SrcAt h' h.length cv ∧ (∃ L, h' = h ++ L) ∧ AC Try.prog 52 [cv] h (pt h.length 0) h' := by
  cases c with
  | nil =>
    refine ⟨h ++ [⟨Sr (.slice none 0 0) ((0 : Nat) : Int) 9001, true⟩], ⟨⟨Sr (.slice none 0 0) ((0 : Nat) : Int) 9001, true⟩, by simp, 0, 9001, 0, fun _ => 0, rfl, Nat.le_refl _, by omega, .nil _⟩, ⟨_, rfl⟩, ?_⟩
    (refine AC_begin (fun _ _ => Try.call52 _ _) Try.func52 rfl Try.ntmps52 Try.results52 (fun hwf => ?_); simp only [List.length_cons, List.length_nil, Nat.reduceAdd, Nat.reduceSub, List.replicate, List.cons_append, List.nil_append])
    (repeat (first | ((first | (refine And.intro ?_ ?_; focus exact PLA) | refine WA_seq (WA_region ?_) | refine WA_region ?_ | refine WA_exit ?_); try simp (maxSteps := 1000000) (disch := first | omega | rfl | decide | (simp only [List.length_cons, List.length_nil, List.length_append, LV] <;> omega)) only [go_sem, Nat.reduceAdd, Int.reduceAdd, Int.reduceSub, Int.reduceMul, Bool.not_true, Bool.not_false, yieldA_at 4 16]) | (refine (WA_rb (id := 5) [15] (SubM.refl _) mixedOk ?_); simp only [List.size_toArray, List.length_cons, List.length_nil]; (repeat (first | ((first | (refine And.intro ?_ ?_; focus exact PLA) | refine RB_take false [0, 1, 2, 3, 6, 7, 8] 9 (by rfl) (by kernel_rfl) (by decide) (by decide +kernel) ?_ | refine RB_take true [4, 9] 7 (by rfl) (by kernel_rfl) (by decide) (by decide +kernel) ?_ | refine RB_take false [5, 10, 11, 12, 13, 14] 1 (by rfl) (by kernel_rfl) (by decide) (by decide +kernel) ?_ | refine RB_exec 15 _ (by rfl) (by decide +kernel) (by decide +kernel) ?_ | refine RB_done (by decide +kernel) ?_); try simp (maxSteps := 1000000) (disch := first | omega | rfl | decide | (simp only [List.length_cons, List.length_nil, List.length_append, LV] <;> omega)) only [go_sem, Nat.reduceAdd, Int.reduceAdd, Int.reduceSub, Int.reduceMul, Bool.not_true, Bool.not_false, yieldA_at 4 16])))) | refine WA_seq ?_ | refine WA_block ?_ | (refine WA_skip ?_; try simp only [go_sem]) | (refine WA_ret ?_; try simp only [go_sem]) | refine WA_ct rfl ?_ | refine WA_cf rfl ?_))
    refine WA_forP (fun k => [(4, .int .i64 k), (12, J), (13, J), (14, J), (15, J), (16, J), (17, J), (18, J), (19, J), (20, J), (21, J), (22, J), (23, J), (24, J), (25, J), (26, J), (27, J), (28, J), (29, J), (30, J), (31, J), (32, J), (33, J), (34, J), (35, J), (36, J)]) (fun k => []) (0) ?_ ?_ ?_ <;> (try simp only [patT_cons, patT_nil, patL_cons, patL_nil, list_set_zero, list_set_succ, blk_set_zero, blk_set_succ])
    · (refine Drop_slots (by first | exact Nat.le_refl _ | simp) ?_; focus ((try simp only [JL_same, JL_J, JL_nil, Int.reduceAdd, Nat.sub_sub, Int.natCast_add, Int.natCast_one, Int.natCast_zero, Int.cast_ofNat_Int, Nat.add_zero, Bool.false_eq_true, if_false, if_true]); (try exact JL_refl _)))
    · intro k hk
      omega
    · (repeat (first | ((first | (refine And.intro ?_ ?_; focus exact PLA) | refine WA_seq (WA_region ?_) | refine WA_region ?_ | refine WA_exit ?_); try simp (maxSteps := 1000000) (disch := first | omega | rfl | decide | (simp only [List.length_cons, List.length_nil, List.length_append, LV] <;> omega)) only [go_sem, Nat.reduceAdd, Int.reduceAdd, Int.reduceSub, Int.reduceMul, Bool.not_true, Bool.not_false, show decide ((0 : Nat) < 0) = false from rfl, show decide ((0 : Int) < 0) = false from rfl, yieldA_at 4 16]) | refine WA_seq ?_ | refine WA_block ?_ | (refine WA_skip ?_; try simp only [go_sem]) | (refine WA_ret ?_; try simp only [go_sem]) | refine WA_ct rfl ?_ | refine WA_cf rfl ?_))
      ((first | refine ret_nA ?_ | refine ret_sA ?_ | refine ret_fA ?_); simp (maxSteps := 1000000) (disch := first | omega | rfl | decide | (simp only [List.length_cons, List.length_nil, List.length_append, LV] <;> omega)) only [go_sem, Nat.reduceAdd, Int.reduceAdd, Int.reduceSub, Int.reduceMul, Bool.not_true, Bool.not_false]; try rfl)
  | @sl bc n f rc hb hn =>
    have hbl := blt hb
    refine ⟨h ++ [⟨Sr (sl bc 0 n 1) ((0 : Nat) : Int) (frH ((9001 + n : Nat) : Int) f n), true⟩], ⟨⟨Sr (sl bc 0 n 1) ((0 : Nat) : Int) (frH ((9001 + n : Nat) : Int) f n), true⟩, by simp, 0, _, n, f, rfl, Nat.zero_le _, hn, .sl f (look_old hb _) (by omega)⟩, ⟨_, rfl⟩, ?_⟩
    (refine AC_begin (fun _ _ => Try.call52 _ _) Try.func52 rfl Try.ntmps52 Try.results52 (fun hwf => ?_); simp only [List.length_cons, List.length_nil, Nat.reduceAdd, Nat.reduceSub, List.replicate, List.cons_append, List.nil_append])
    (repeat (first | ((first | (refine And.intro ?_ ?_; focus exact PLA) | refine WA_seq (WA_region ?_) | refine WA_region ?_ | refine WA_exit ?_); try simp (maxSteps := 1000000) (disch := first | omega | rfl | decide | (simp only [List.length_cons, List.length_nil, List.length_append, LV] <;> omega)) only [go_sem, Nat.reduceAdd, Int.reduceAdd, Int.reduceSub, Int.reduceMul, Bool.not_true, Bool.not_false, yieldA_at 4 16]) | (refine (WA_rb (id := 5) [15] (SubM.refl _) mixedOk ?_); simp only [List.size_toArray, List.length_cons, List.length_nil]; (repeat (first | ((first | (refine And.intro ?_ ?_; focus exact PLA) | refine RB_take false [0, 1, 2, 3, 6, 7, 8] 9 (by rfl) (by kernel_rfl) (by decide) (by decide +kernel) ?_ | refine RB_take true [4, 9] 7 (by rfl) (by kernel_rfl) (by decide) (by decide +kernel) ?_ | refine RB_take false [5, 10, 11, 12, 13, 14] 1 (by rfl) (by kernel_rfl) (by decide) (by decide +kernel) ?_ | refine RB_exec 15 _ (by rfl) (by decide +kernel) (by decide +kernel) ?_ | refine RB_done (by decide +kernel) ?_); try simp (maxSteps := 1000000) (disch := first | omega | rfl | decide | (simp only [List.length_cons, List.length_nil, List.length_append, LV] <;> omega)) only [go_sem, Nat.reduceAdd, Int.reduceAdd, Int.reduceSub, Int.reduceMul, Bool.not_true, Bool.not_false, yieldA_at 4 16])))) | refine WA_seq ?_ | refine WA_block ?_ | (refine WA_skip ?_; try simp only [go_sem]) | (refine WA_ret ?_; try simp only [go_sem]) | refine WA_ct rfl ?_ | refine WA_cf rfl ?_))
    refine WA_forP (fun k => [(4, .int .i64 k), (12, J), (13, J), (14, J), (15, J), (16, J), (17, J), (18, J), (19, J), (20, J), (21, J), (22, J), (23, J), (24, J), (25, J), (26, J), (27, J), (28, J), (29, J), (30, J), (31, J), (32, J), (33, J), (34, J), (35, J), (36, J)]) (fun k => [(0, ⟨Sr (sl bc 0 n 1) ((0 : Nat) : Int) (frH ((9001 + n : Nat) : Int) f k), true⟩)]) (n) ?_ ?_ ?_ <;> (try simp only [patT_cons, patT_nil, patL_cons, patL_nil, list_set_zero, list_set_succ, blk_set_zero, blk_set_succ])
    · (refine Drop_slots (by first | exact Nat.le_refl _ | simp) ?_; focus ((try simp only [JL_same, JL_J, JL_nil, Int.reduceAdd, Nat.sub_sub, Int.natCast_add, Int.natCast_one, Int.natCast_zero, Int.cast_ofNat_Int, Nat.add_zero, Bool.false_eq_true, if_false, if_true]); (try exact JL_refl _)))
    · intro k hk
      have hx := u8_lt (f k)
      (repeat (first | ((first | (refine And.intro ?_ ?_; focus exact PLA) | refine WA_seq (WA_region ?_) | refine WA_region ?_ | refine WA_exit ?_); try simp (maxSteps := 1000000) (disch := first | omega | rfl | decide | (simp only [List.length_cons, List.length_nil, List.length_append, LV] <;> omega)) only [go_sem, Nat.reduceAdd, Int.reduceAdd, Int.reduceSub, Int.reduceMul, Bool.not_true, Bool.not_false, look_old hb, decide_eq_true hk, show decide (k < 4096) = true from decide_eq_true (by omega), show IntKind.u64.wrap (IntKind.u64.wrap (IntKind.u64.wrap (frH ((9001 + n : Nat) : Int) f k * 1099511628211) + ((f k).toNat : Int)) + 11) = frH ((9001 + n : Nat) : Int) f (k + 1) from rfl, yieldA_at 4 16]) | (refine (WA_rb (id := 5) [15] (SubM.refl _) mixedOk ?_); simp only [List.size_toArray, List.length_cons, List.length_nil]; (repeat (first | ((first | (refine And.intro ?_ ?_; focus exact PLA) | refine RB_take false [0, 1, 2, 3, 6, 7, 8] 9 (by rfl) (by kernel_rfl) (by decide) (by decide +kernel) ?_ | refine RB_take true [4, 9] 7 (by rfl) (by kernel_rfl) (by decide) (by decide +kernel) ?_ | refine RB_take false [5, 10, 11, 12, 13, 14] 1 (by rfl) (by kernel_rfl) (by decide) (by decide +kernel) ?_ | refine RB_exec 15 _ (by rfl) (by decide +kernel) (by decide +kernel) ?_ | refine RB_done (by decide +kernel) ?_); try simp (maxSteps := 1000000) (disch := first | omega | rfl | decide | (simp only [List.length_cons, List.length_nil, List.length_append, LV] <;> omega)) only [go_sem, Nat.reduceAdd, Int.reduceAdd, Int.reduceSub, Int.reduceMul, Bool.not_true, Bool.not_false, look_old hb, decide_eq_true hk, show decide (k < 4096) = true from decide_eq_true (by omega), show IntKind.u64.wrap (IntKind.u64.wrap (IntKind.u64.wrap (frH ((9001 + n : Nat) : Int) f k * 1099511628211) + ((f k).toNat : Int)) + 11) = frH ((9001 + n : Nat) : Int) f (k + 1) from rfl, yieldA_at 4 16])))) | refine WA_seq ?_ | refine WA_block ?_ | (refine WA_skip ?_; try simp only [go_sem]) | (refine WA_ret ?_; try simp only [go_sem]) | refine WA_ct rfl ?_ | refine WA_cf rfl ?_))
      (refine Drop_slots (by first | exact Nat.le_refl _ | simp) ?_; focus ((try simp only [JL_same, JL_J, JL_nil, Int.reduceAdd, Nat.sub_sub, Int.natCast_add, Int.natCast_one, Int.natCast_zero, Int.cast_ofNat_Int, Nat.add_zero, Bool.false_eq_true, if_false, if_true]); (try exact JL_refl _)))
    · (repeat (first | ((first | (refine And.intro ?_ ?_; focus exact PLA) | refine WA_seq (WA_region ?_) | refine WA_region ?_ | refine WA_exit ?_); try simp (maxSteps := 1000000) (disch := first | omega | rfl | decide | (simp only [List.length_cons, List.length_nil, List.length_append, LV] <;> omega)) only [go_sem, Nat.reduceAdd, Int.reduceAdd, Int.reduceSub, Int.reduceMul, Bool.not_true, Bool.not_false, show decide (n < n) = false from decide_eq_false (Nat.lt_irrefl n), yieldA_at 4 16]) | refine WA_seq ?_ | refine WA_block ?_ | (refine WA_skip ?_; try simp only [go_sem]) | (refine WA_ret ?_; try simp only [go_sem]) | refine WA_ct rfl ?_ | refine WA_cf rfl ?_))
      ((first | refine ret_nA ?_ | refine ret_sA ?_ | refine ret_fA ?_); simp (maxSteps := 1000000) (disch := first | omega | rfl | decide | (simp only [List.length_cons, List.length_nil, List.length_append, LV] <;> omega)) only [go_sem, Nat.reduceAdd, Int.reduceAdd, Int.reduceSub, Int.reduceMul, Bool.not_true, Bool.not_false]; try rfl)

end Go.Proofs.Ytcfpninklbnifaa
/- Draws of blocks, places and matrices. -/
namespace Go.Proofs.Ytcfpninklbnifaa
set_option linter.unusedSimpArgs false
set_option linter.unusedVariables false
set_option maxRecDepth 20000
set_option maxHeartbeats 1000000
open Go.Abs

theorem Cd.lt {h : List Blk} {b n : Nat} {cv : Value} {f : Nat → UInt8} (c : Cd h b cv n f) : ∀ bc n', cv = Go.Abs.sl bc 0 n' 1 → bc < h.length := by
  intro bc n' e
  cases c with
  | nil => cases e
  | sl _ hb hne => cases e; exact blt hb
theorem Cd.set2 {h h0 : List Blk} {b n n0 : Nat} {cv : Value} {f f0 : Nat → UInt8} (c : Cd h b cv n f) (c0 : Cd h0 b cv n0 f0) {i : Nat} (hi : h0.length ≤ i) (x : Blk) : Cd (h.set i x) b cv n f := by
  cases c with
  | nil => exact .nil f
  | sl _ hb hne =>
    have := c0.lt _ _ rfl
    exact .sl _ (set_at hb (by omega)) hne
theorem Aft.set {h h' : List Blk} {b : Nat} {cv : Value} (a : Aft h h' b cv) (s : SrcAt h b cv) {i : Nat} (hi : h.length ≤ i) (x : Blk) : Aft h (h'.set i x) b cv := by
  have hl := s.lt
  obtain ⟨k0, _, _, _, _, _, _, _, _, c0⟩ := s
  refine ⟨?_, fun j y hj hy => ?_, fun h0 hb e => ?_, by simpa using a.len⟩
  · obtain ⟨k, hb, aa, hs, n, f, e, l1, l2, c⟩ := a.src
    exact ⟨k, set_at hb (by omega), aa, hs, n, f, e, l1, l2, c.set2 c0 hi x⟩
  · have := blt hy
    exact set_at (a.keep j y hj hy) (by omega)
  · obtain ⟨L, e2⟩ := a.app h0 hb e
    obtain ⟨A, eA⟩ := e
    have hlen : h0.length ≤ i := by have := congrArg List.length eA; rw [List.length_append] at this; omega
    rw [e2]
    exact app_set' hlen x
theorem seq_ex {S : Type} {I : Nat → S → Prop} {R : Nat → S → S → Prop} {n : Nat} (s0 : S) (h0 : I 0 s0) (hs : ∀ k, k < n → ∀ s, I k s → ∃ t, I (k + 1) t ∧ R k s t) :
    ∃ f : Nat → S, f 0 = s0 ∧ (∀ k, k ≤ n → I k (f k)) ∧ ∀ k, k < n → R k (f k) (f (k + 1)) := by
  have h : ∀ p : Nat × S, ∃ t, p.1 < n → I p.1 p.2 → I (p.1 + 1) t ∧ R p.1 p.2 t := fun p => by
    by_cases hp : p.1 < n ∧ I p.1 p.2
    · obtain ⟨t, ht⟩ := hs p.1 hp.1 p.2 hp.2
      exact ⟨t, fun _ _ => ht⟩
    · exact ⟨p.2, fun a b => absurd ⟨a, b⟩ hp⟩
  obtain ⟨g, hg⟩ := Classical.axiomOfChoice h
  let f : Nat → S := fun k => Nat.rec s0 (fun k s => g (k, s)) k
  have hI : ∀ k, k ≤ n → I k (f k) := fun k => by
    induction k with
    | zero => exact fun _ => h0
    | succ k ih => exact fun hk => (hg (k, f k) (by show k < n; omega) (ih (by omega))).1
  exact ⟨f, rfl, hI, fun k hk => (hg (k, f k) hk (hI k (by omega))).2⟩
def idF (k : Nat) : Nat → UInt8 := fun i => if i < k then UInt8.ofNat i else 0
theorem idF_zero : idF 0 = zeroF := by funext i; unfold idF zeroF; rw [if_neg (Nat.not_lt_zero i)]
theorem idF_set (k : Nat) : upd (idF k) k (UInt8.ofNat k) = idF (k + 1) := by
  funext i; show (if i = k then UInt8.ofNat k else if i < k then UInt8.ofNat i else 0) = if i < k + 1 then UInt8.ofNat i else 0
  by_cases h : i = k
  · subst h; rw [if_pos rfl, if_pos (by omega)]
  · rw [if_neg h]
    by_cases h2 : i < k
    · rw [if_pos h2, if_pos (by omega)]
    · rw [if_neg h2, if_neg (by omega)]
end Go.Proofs.Ytcfpninklbnifaa
/- The house's box and cipher. -/
namespace Go.Proofs.Ytcfpninklbnifaa
set_option linter.unusedSimpArgs false
set_option linter.unusedVariables false
set_option maxRecDepth 20000
set_option maxHeartbeats 1000000
open Go.Abs

section
variable {P : Program} {T : TypeId}
end
def turnS (x : UInt8) (k : Nat) : UInt8 := UInt8.ofNat ((x.toNat <<< k ||| x.toNat <<< k >>> 8) &&& 255)
theorem turnS_ac (x : UInt8) {k : Nat} (hk : k ≤ 8) (h : List Blk) : AC Try.prog 120 [B x, .int .i64 k] h (B (turnS x k)) h := by
  have hx := u8_lt x
  have hl : x.toNat <<< k < 65536 := by
    rw [Nat.shiftLeft_eq]
    have h2 : 2 ^ k ≤ 2 ^ 8 := Nat.pow_le_pow_right (by omega) hk
    calc x.toNat * 2 ^ k ≤ x.toNat * 2 ^ 8 := Nat.mul_le_mul_left _ h2
      _ < 65536 := by omega
  have hw := wrap_N (n := x.toNat <<< k) (by omega)
  have hr := Nat.shiftRight_le (x.toNat <<< k) 8
  have ho := bits_or_N (a := x.toNat <<< k) (b := x.toNat <<< k >>> 8) (by omega) (by omega)
  have hs := shr_64 (a := x.toNat <<< k) (i := 8) (by omega)
  have hlt : (x.toNat <<< k ||| x.toNat <<< k >>> 8) < 9223372036854775808 := Nat.or_lt_two_pow (n := 63) (by omega) (by omega)
  (refine AC_begin (fun _ _ => Try.call120 _ _) Try.func120 rfl Try.ntmps120 Try.results120 (fun hwf => ?_); simp only [List.length_cons, List.length_nil, Nat.reduceAdd, Nat.reduceSub, List.replicate, List.cons_append, List.nil_append])
  (repeat (first | ((first | (refine And.intro ?_ ?_; focus exact PLA) | refine WA_seq (WA_region ?_) | refine WA_region ?_ | refine WA_exit ?_); try simp (maxSteps := 1000000) (disch := first | omega | rfl | decide | (simp only [List.length_cons, List.length_nil, List.length_append, LV] <;> omega)) only [go_sem, Nat.reduceAdd, Int.reduceAdd, Int.reduceSub, Int.reduceMul, Bool.not_true, Bool.not_false, hw, ho, hs]) | refine WA_seq ?_ | refine WA_block ?_ | (refine WA_skip ?_; try simp only [go_sem]) | (refine WA_ret ?_; try simp only [go_sem]) | refine WA_ct rfl ?_ | refine WA_cf rfl ?_))
  ((first | refine ret_nA ?_ | refine ret_sA ?_ | refine ret_fA ?_); simp (maxSteps := 1000000) (disch := first | omega | rfl | decide | (simp only [List.length_cons, List.length_nil, List.length_append, LV] <;> omega)) only [go_sem, Nat.reduceAdd, Int.reduceAdd, Int.reduceSub, Int.reduceMul, Bool.not_true, Bool.not_false, turnS, hw, ho, hs]; try rfl)

/-- The box of a power. -/
def powF (m e : Nat) : Nat → UInt8 := fun i => po m (UInt8.ofNat i) e
theorem powS_ac {m : Nat} (h0 : 256 ≤ m) (h1 : m < 512) {e : Nat} (he : e < 9223372036854775808) (h : List Blk) : AC Try.prog 99 [.int .i64 m, .int .i64 e] h (.agg (Bs 256 (powF m e)).toArray) h := by
  (refine AC_begin (fun _ _ => Try.call99 _ _) Try.func99 rfl Try.ntmps99 Try.results99 (fun hwf => ?_); simp only [List.length_cons, List.length_nil, Nat.reduceAdd, Nat.reduceSub, List.replicate, List.cons_append, List.nil_append])
  (repeat (first | ((first | (refine And.intro ?_ ?_; focus exact PLA) | refine WA_seq (WA_region ?_) | refine WA_region ?_ | refine WA_exit ?_); try simp (maxSteps := 1000000) (disch := first | omega | rfl | decide | (simp only [List.length_cons, List.length_nil, List.length_append, LV] <;> omega)) only [go_sem, Nat.reduceAdd, Int.reduceAdd, Int.reduceSub, Int.reduceMul, Bool.not_true, Bool.not_false]) | refine WA_seq ?_ | refine WA_block ?_ | (refine WA_skip ?_; try simp only [go_sem]) | (refine WA_ret ?_; try simp only [go_sem]) | refine WA_ct rfl ?_ | refine WA_cf rfl ?_))
  refine WA_forP (fun k => [(6, .int .i64 k), (7, J), (8, J), (9, J), (11, J), (12, J), (13, J), (14, J), (15, J), (16, J), (17, J), (18, J), (19, J), (20, J), (21, J), (22, J), (23, J), (24, J), (25, J), (26, J), (27, J), (28, J), (29, J), (30, J), (31, J), (32, J), (33, J), (34, J), (35, J)]) (fun k => [(1, ⟨Bs 256 (pre k (powF m e) fun _ => 0), true⟩)]) (256) ?_ ?_ ?_ <;> (try simp only [patT_cons, patT_nil, patL_cons, patL_nil, list_set_zero, list_set_succ, blk_set_zero, blk_set_succ])
  · rw [pre_zero]
    (refine Drop_slots (by first | exact Nat.le_refl _ | simp) ?_; focus ((try simp only [JL_same, JL_J, JL_nil, Int.reduceAdd, Nat.sub_sub, Int.natCast_add, Int.natCast_one, Int.natCast_zero, Int.cast_ofNat_Int, Nat.add_zero, Bool.false_eq_true, if_false, if_true]); (try exact JL_refl _)))
  · intro i hi
    (repeat (first | ((first | (refine And.intro ?_ ?_; focus exact PLA) | refine WA_seq (WA_region ?_) | refine WA_region ?_ | refine WA_exit ?_); try simp (maxSteps := 1000000) (disch := first | omega | rfl | decide | (simp only [List.length_cons, List.length_nil, List.length_append, LV] <;> omega)) only [go_sem, Nat.reduceAdd, Int.reduceAdd, Int.reduceSub, Int.reduceMul, Bool.not_true, Bool.not_false]) | refine WA_seq ?_ | refine WA_block ?_ | (refine WA_skip ?_; try simp only [go_sem]) | (refine WA_ret ?_; try simp only [go_sem]) | refine WA_ct rfl ?_ | refine WA_cf rfl ?_))
    refine WA_forP (fun k => [(7, B (poP m (UInt8.ofNat i) e k)), (8, B (sqP m (UInt8.ofNat i) k)), (9, .int .i64 ((e >>> k : Nat))), (18, J), (19, J), (20, J), (21, J), (22, J), (23, J), (24, J), (25, J), (26, J), (27, J), (28, J), (29, J), (30, J), (31, J), (32, J)]) (fun k => []) (blen e) ?_ ?_ ?_ <;> (try simp only [patT_cons, patT_nil, patL_cons, patL_nil, list_set_zero, list_set_succ, blk_set_zero, blk_set_succ])
    · (refine Drop_slots (by first | exact Nat.le_refl _ | simp) ?_; focus ((try simp only [JL_same, JL_J, JL_nil, Int.reduceAdd, Nat.sub_sub, Int.natCast_add, Int.natCast_one, Int.natCast_zero, Int.cast_ofNat_Int, Nat.add_zero, Bool.false_eq_true, if_false, if_true, sqP, poP, Nat.shiftRight_zero]); (try exact JL_refl _)))
    · intro k hk
      have hp := blen_pos hk
      have hs := Nat.shiftRight_le e k
      have hw := wrap_N (n := e >>> (k+1)) (Nat.lt_of_le_of_lt (Nat.shiftRight_le e (k + 1)) he)
      cases hb : e.testBit k
      · (repeat (first | ((first | (refine And.intro ?_ ?_; focus exact PLA) | ((first | with_reducible apply callB_i | with_reducible apply callK_intro | with_reducible apply callQ_i); (focus (first | assumption | (with_reducible apply tmS_ac h0 h1 <;> (first | assumption | rfl | (simp (disch := omega) only [go_sem]; first | done | rfl) | omega | decide | (simp; done))))); (try exact WP_au)) | refine WA_seq (WA_region ?_) | refine WA_region ?_ | refine WA_exit ?_); try simp (maxSteps := 1000000) (disch := first | omega | rfl | decide | (simp only [List.length_cons, List.length_nil, List.length_append, LV] <;> omega)) only [go_sem, Nat.reduceAdd, Int.reduceAdd, Int.reduceSub, Int.reduceMul, Bool.not_true, Bool.not_false, hb, hw]) | refine WA_seq ?_ | refine WA_block ?_ | (refine WA_skip ?_; try simp only [go_sem]) | (refine WA_ret ?_; try simp only [go_sem]) | refine WA_ct rfl ?_ | refine WA_cf rfl ?_))
        (refine Drop_slots (by first | exact Nat.le_refl _ | simp) ?_; focus ((try simp only [JL_same, JL_J, JL_nil, Int.reduceAdd, Nat.sub_sub, Int.natCast_add, Int.natCast_one, Int.natCast_zero, Int.cast_ofNat_Int, Nat.add_zero, Bool.false_eq_true, if_false, if_true, poP_f hb, sqP]); (try exact JL_refl _)))
      · (repeat (first | ((first | (refine And.intro ?_ ?_; focus exact PLA) | ((first | with_reducible apply callB_i | with_reducible apply callK_intro | with_reducible apply callQ_i); (focus (first | assumption | (with_reducible apply tmS_ac h0 h1 <;> (first | assumption | rfl | (simp (disch := omega) only [go_sem]; first | done | rfl) | omega | decide | (simp; done))))); (try exact WP_au)) | refine WA_seq (WA_region ?_) | refine WA_region ?_ | refine WA_exit ?_); try simp (maxSteps := 1000000) (disch := first | omega | rfl | decide | (simp only [List.length_cons, List.length_nil, List.length_append, LV] <;> omega)) only [go_sem, Nat.reduceAdd, Int.reduceAdd, Int.reduceSub, Int.reduceMul, Bool.not_true, Bool.not_false, hb, hw]) | refine WA_seq ?_ | refine WA_block ?_ | (refine WA_skip ?_; try simp only [go_sem]) | (refine WA_ret ?_; try simp only [go_sem]) | refine WA_ct rfl ?_ | refine WA_cf rfl ?_))
        (refine Drop_slots (by first | exact Nat.le_refl _ | simp) ?_; focus ((try simp only [JL_same, JL_J, JL_nil, Int.reduceAdd, Nat.sub_sub, Int.natCast_add, Int.natCast_one, Int.natCast_zero, Int.cast_ofNat_Int, Nat.add_zero, Bool.false_eq_true, if_false, if_true, poP_t hb, sqP]); (try exact JL_refl _)))
    · (repeat (first | ((first | (refine And.intro ?_ ?_; focus exact PLA) | refine WA_seq (WA_region ?_) | refine WA_region ?_ | refine WA_exit ?_); try simp (maxSteps := 1000000) (disch := first | omega | rfl | decide | (simp only [List.length_cons, List.length_nil, List.length_append, LV] <;> omega)) only [go_sem, Nat.reduceAdd, Int.reduceAdd, Int.reduceSub, Int.reduceMul, Bool.not_true, Bool.not_false, blen_done, upd_pre, show poP m (UInt8.ofNat i) e (blen e) = powF m e i from rfl]) | refine WA_seq ?_ | refine WA_block ?_ | (refine WA_skip ?_; try simp only [go_sem]) | (refine WA_ret ?_; try simp only [go_sem]) | refine WA_ct rfl ?_ | refine WA_cf rfl ?_))
      (refine Drop_slots (by first | exact Nat.le_refl _ | simp) ?_; focus ((try simp only [JL_same, JL_J, JL_nil, Int.reduceAdd, Nat.sub_sub, Int.natCast_add, Int.natCast_one, Int.natCast_zero, Int.cast_ofNat_Int, Nat.add_zero, Bool.false_eq_true, if_false, if_true]); (try exact JL_refl _)))
  · (repeat (first | ((first | (refine And.intro ?_ ?_; focus exact PLA) | refine WA_seq (WA_region ?_) | refine WA_region ?_ | refine WA_exit ?_); try simp (maxSteps := 1000000) (disch := first | omega | rfl | decide | (simp only [List.length_cons, List.length_nil, List.length_append, LV] <;> omega)) only [go_sem, Nat.reduceAdd, Int.reduceAdd, Int.reduceSub, Int.reduceMul, Bool.not_true, Bool.not_false]) | refine WA_seq ?_ | refine WA_block ?_ | (refine WA_skip ?_; try simp only [go_sem]) | (refine WA_ret ?_; try simp only [go_sem]) | refine WA_ct rfl ?_ | refine WA_cf rfl ?_))
    ((first | refine ret_nA ?_ | refine ret_sA ?_ | refine ret_fA ?_); simp (maxSteps := 1000000) (disch := first | omega | rfl | decide | (simp only [List.length_cons, List.length_nil, List.length_append, LV] <;> omega)) only [go_sem, Nat.reduceAdd, Int.reduceAdd, Int.reduceSub, Int.reduceMul, Bool.not_true, Bool.not_false, Bs_pre]; try rfl)

def rotP (x c : UInt8) : Nat → UInt8
  | 0 => c
  | k + 1 => rotP x c k ^^^ turnS x ([0, 1, 4].getD k 0)
def rotF (c : UInt8) : Nat → UInt8 := fun i => rotP (UInt8.ofNat i) c 3
theorem rotS_ac {h : List Blk} {b : Nat} {r : Bool} (hb : h[b]? = some ⟨[.int .i64 0, .int .i64 1, .int .i64 4], r⟩) (c : UInt8) : AC Try.prog 100 [sl b 0 3 1, B c] h (.agg (Bs 256 (rotF c)).toArray) h := by
  have hbl := blt hb
  have ht0 : ∀ x h, AC Try.prog 120 [B x, .int .i64 0] h (B (turnS x 0)) h := fun x h => turnS_ac x (k := 0) (by omega) h
  have ht1 : ∀ x h, AC Try.prog 120 [B x, .int .i64 1] h (B (turnS x 1)) h := fun x h => turnS_ac x (k := 1) (by omega) h
  have ht4 : ∀ x h, AC Try.prog 120 [B x, .int .i64 4] h (B (turnS x 4)) h := fun x h => turnS_ac x (k := 4) (by omega) h
  (refine AC_begin (fun _ _ => Try.call100 _ _) Try.func100 rfl Try.ntmps100 Try.results100 (fun hwf => ?_); simp only [List.length_cons, List.length_nil, Nat.reduceAdd, Nat.reduceSub, List.replicate, List.cons_append, List.nil_append])
  (repeat (first | ((first | (refine And.intro ?_ ?_; focus exact PLA) | refine WA_seq (WA_region ?_) | refine WA_region ?_ | refine WA_exit ?_); try simp (maxSteps := 1000000) (disch := first | omega | rfl | decide | (simp only [List.length_cons, List.length_nil, List.length_append, LV] <;> omega)) only [go_sem, Nat.reduceAdd, Int.reduceAdd, Int.reduceSub, Int.reduceMul, Bool.not_true, Bool.not_false]) | refine WA_seq ?_ | refine WA_block ?_ | (refine WA_skip ?_; try simp only [go_sem]) | (refine WA_ret ?_; try simp only [go_sem]) | refine WA_ct rfl ?_ | refine WA_cf rfl ?_))
  refine WA_forP (fun k => [(6, .int .i64 k), (7, J), (8, J), (10, J), (11, J), (12, J), (13, J), (14, J), (15, J), (16, J), (17, J), (18, J), (19, J), (20, J), (21, J), (22, J), (23, J), (24, J), (25, J), (26, J), (27, J), (28, J), (29, J), (30, J), (31, J), (32, J)]) (fun k => [(1, ⟨Bs 256 (pre k (rotF c) fun _ => 0), true⟩)]) (256) ?_ ?_ ?_ <;> (try simp only [patT_cons, patT_nil, patL_cons, patL_nil, list_set_zero, list_set_succ, blk_set_zero, blk_set_succ])
  · rw [pre_zero]
    (refine Drop_slots (by first | exact Nat.le_refl _ | simp) ?_; focus ((try simp only [JL_same, JL_J, JL_nil, Int.reduceAdd, Nat.sub_sub, Int.natCast_add, Int.natCast_one, Int.natCast_zero, Int.cast_ofNat_Int, Nat.add_zero, Bool.false_eq_true, if_false, if_true]); (try exact JL_refl _)))
  · intro i hi
    (repeat (first | ((first | (refine And.intro ?_ ?_; focus exact PLA) | refine WA_seq (WA_region ?_) | refine WA_region ?_ | refine WA_exit ?_); try simp (maxSteps := 1000000) (disch := first | omega | rfl | decide | (simp only [List.length_cons, List.length_nil, List.length_append, LV] <;> omega)) only [go_sem, Nat.reduceAdd, Int.reduceAdd, Int.reduceSub, Int.reduceMul, Bool.not_true, Bool.not_false]) | refine WA_seq ?_ | refine WA_block ?_ | (refine WA_skip ?_; try simp only [go_sem]) | (refine WA_ret ?_; try simp only [go_sem]) | refine WA_ct rfl ?_ | refine WA_cf rfl ?_))
    refine WA_forP (fun k => [(7, B (rotP (UInt8.ofNat i) c k)), (8, .int .i64 k), (15, J), (16, J), (17, J), (18, J), (19, J), (20, J), (21, J), (22, J), (23, J), (24, J), (25, J), (26, J), (27, J), (28, J), (29, J)]) (fun k => []) (3) ?_ ?_ ?_ <;> (try simp only [patT_cons, patT_nil, patL_cons, patL_nil, list_set_zero, list_set_succ, blk_set_zero, blk_set_succ])
    · (refine Drop_slots (by first | exact Nat.le_refl _ | simp) ?_; focus ((try simp only [JL_same, JL_J, JL_nil, Int.reduceAdd, Nat.sub_sub, Int.natCast_add, Int.natCast_one, Int.natCast_zero, Int.cast_ofNat_Int, Nat.add_zero, Bool.false_eq_true, if_false, if_true, rotP]); (try exact JL_refl _)))
    · intro k hk
      rcases (show k = 0 ∨ k = 1 ∨ k = 2 by omega) with rfl | rfl | rfl
      · (repeat (first | ((first | (refine And.intro ?_ ?_; focus exact PLA) | ((first | with_reducible apply callB_i | with_reducible apply callK_intro | with_reducible apply callQ_i); (focus (first | assumption | (with_reducible apply ht0 <;> (first | assumption | rfl | (simp (disch := omega) only [go_sem]; first | done | rfl) | omega | decide | (simp; done))))); (try exact WP_au)) | refine WA_seq (WA_region ?_) | refine WA_region ?_ | refine WA_exit ?_); try simp (maxSteps := 1000000) (disch := first | omega | rfl | decide | (simp only [List.length_cons, List.length_nil, List.length_append, LV] <;> omega)) only [go_sem, Nat.reduceAdd, Int.reduceAdd, Int.reduceSub, Int.reduceMul, Bool.not_true, Bool.not_false, look_old hb]) | refine WA_seq ?_ | refine WA_block ?_ | (refine WA_skip ?_; try simp only [go_sem]) | (refine WA_ret ?_; try simp only [go_sem]) | refine WA_ct rfl ?_ | refine WA_cf rfl ?_))
        (refine Drop_slots (by first | exact Nat.le_refl _ | simp) ?_; focus ((try simp only [JL_same, JL_J, JL_nil, Int.reduceAdd, Nat.sub_sub, Int.natCast_add, Int.natCast_one, Int.natCast_zero, Int.cast_ofNat_Int, Nat.add_zero, Bool.false_eq_true, if_false, if_true, rotP, List.getD_cons_zero, List.getD_cons_succ]); (try exact JL_refl _)))
      · (repeat (first | ((first | (refine And.intro ?_ ?_; focus exact PLA) | ((first | with_reducible apply callB_i | with_reducible apply callK_intro | with_reducible apply callQ_i); (focus (first | assumption | (with_reducible apply ht1 <;> (first | assumption | rfl | (simp (disch := omega) only [go_sem]; first | done | rfl) | omega | decide | (simp; done))))); (try exact WP_au)) | refine WA_seq (WA_region ?_) | refine WA_region ?_ | refine WA_exit ?_); try simp (maxSteps := 1000000) (disch := first | omega | rfl | decide | (simp only [List.length_cons, List.length_nil, List.length_append, LV] <;> omega)) only [go_sem, Nat.reduceAdd, Int.reduceAdd, Int.reduceSub, Int.reduceMul, Bool.not_true, Bool.not_false, look_old hb]) | refine WA_seq ?_ | refine WA_block ?_ | (refine WA_skip ?_; try simp only [go_sem]) | (refine WA_ret ?_; try simp only [go_sem]) | refine WA_ct rfl ?_ | refine WA_cf rfl ?_))
        (refine Drop_slots (by first | exact Nat.le_refl _ | simp) ?_; focus ((try simp only [JL_same, JL_J, JL_nil, Int.reduceAdd, Nat.sub_sub, Int.natCast_add, Int.natCast_one, Int.natCast_zero, Int.cast_ofNat_Int, Nat.add_zero, Bool.false_eq_true, if_false, if_true, rotP, List.getD_cons_zero, List.getD_cons_succ]); (try exact JL_refl _)))
      · (repeat (first | ((first | (refine And.intro ?_ ?_; focus exact PLA) | ((first | with_reducible apply callB_i | with_reducible apply callK_intro | with_reducible apply callQ_i); (focus (first | assumption | (with_reducible apply ht4 <;> (first | assumption | rfl | (simp (disch := omega) only [go_sem]; first | done | rfl) | omega | decide | (simp; done))))); (try exact WP_au)) | refine WA_seq (WA_region ?_) | refine WA_region ?_ | refine WA_exit ?_); try simp (maxSteps := 1000000) (disch := first | omega | rfl | decide | (simp only [List.length_cons, List.length_nil, List.length_append, LV] <;> omega)) only [go_sem, Nat.reduceAdd, Int.reduceAdd, Int.reduceSub, Int.reduceMul, Bool.not_true, Bool.not_false, look_old hb]) | refine WA_seq ?_ | refine WA_block ?_ | (refine WA_skip ?_; try simp only [go_sem]) | (refine WA_ret ?_; try simp only [go_sem]) | refine WA_ct rfl ?_ | refine WA_cf rfl ?_))
        (refine Drop_slots (by first | exact Nat.le_refl _ | simp) ?_; focus ((try simp only [JL_same, JL_J, JL_nil, Int.reduceAdd, Nat.sub_sub, Int.natCast_add, Int.natCast_one, Int.natCast_zero, Int.cast_ofNat_Int, Nat.add_zero, Bool.false_eq_true, if_false, if_true, rotP, List.getD_cons_zero, List.getD_cons_succ]); (try exact JL_refl _)))
    · (repeat (first | ((first | (refine And.intro ?_ ?_; focus exact PLA) | refine WA_seq (WA_region ?_) | refine WA_region ?_ | refine WA_exit ?_); try simp (maxSteps := 1000000) (disch := first | omega | rfl | decide | (simp only [List.length_cons, List.length_nil, List.length_append, LV] <;> omega)) only [go_sem, Nat.reduceAdd, Int.reduceAdd, Int.reduceSub, Int.reduceMul, Bool.not_true, Bool.not_false, upd_pre, show rotP (UInt8.ofNat i) c 3 = rotF c i from rfl]) | refine WA_seq ?_ | refine WA_block ?_ | (refine WA_skip ?_; try simp only [go_sem]) | (refine WA_ret ?_; try simp only [go_sem]) | refine WA_ct rfl ?_ | refine WA_cf rfl ?_))
      (refine Drop_slots (by first | exact Nat.le_refl _ | simp) ?_; focus ((try simp only [JL_same, JL_J, JL_nil, Int.reduceAdd, Nat.sub_sub, Int.natCast_add, Int.natCast_one, Int.natCast_zero, Int.cast_ofNat_Int, Nat.add_zero, Bool.false_eq_true, if_false, if_true]); (try exact JL_refl _)))
  · (repeat (first | ((first | (refine And.intro ?_ ?_; focus exact PLA) | refine WA_seq (WA_region ?_) | refine WA_region ?_ | refine WA_exit ?_); try simp (maxSteps := 1000000) (disch := first | omega | rfl | decide | (simp only [List.length_cons, List.length_nil, List.length_append, LV] <;> omega)) only [go_sem, Nat.reduceAdd, Int.reduceAdd, Int.reduceSub, Int.reduceMul, Bool.not_true, Bool.not_false]) | refine WA_seq ?_ | refine WA_block ?_ | (refine WA_skip ?_; try simp only [go_sem]) | (refine WA_ret ?_; try simp only [go_sem]) | refine WA_ct rfl ?_ | refine WA_cf rfl ?_))
    ((first | refine ret_nA ?_ | refine ret_sA ?_ | refine ret_fA ?_); simp (maxSteps := 1000000) (disch := first | omega | rfl | decide | (simp only [List.length_cons, List.length_nil, List.length_append, LV] <;> omega)) only [go_sem, Nat.reduceAdd, Int.reduceAdd, Int.reduceSub, Int.reduceMul, Bool.not_true, Bool.not_false, Bs_pre]; try rfl)

def thenF (p q : Nat → UInt8) : Nat → UInt8 := fun i => q (p i).toNat
theorem thenS_ac (p q : Nat → UInt8) (h : List Blk) : AC Try.prog 98 [.agg (Bs 256 p).toArray, .agg (Bs 256 q).toArray] h (.agg (Bs 256 (thenF p q)).toArray) h := by
  (refine AC_begin (fun _ _ => Try.call98 _ _) Try.func98 rfl Try.ntmps98 Try.results98 (fun hwf => ?_); simp only [List.length_cons, List.length_nil, Nat.reduceAdd, Nat.reduceSub, List.replicate, List.cons_append, List.nil_append])
  (repeat (first | ((first | (refine And.intro ?_ ?_; focus exact PLA) | refine WA_seq (WA_region ?_) | refine WA_region ?_ | refine WA_exit ?_); try simp (maxSteps := 1000000) (disch := first | omega | rfl | decide | (simp only [List.length_cons, List.length_nil, List.length_append, LV] <;> omega)) only [go_sem, Nat.reduceAdd, Int.reduceAdd, Int.reduceSub, Int.reduceMul, Bool.not_true, Bool.not_false]) | refine WA_seq ?_ | refine WA_block ?_ | (refine WA_skip ?_; try simp only [go_sem]) | (refine WA_ret ?_; try simp only [go_sem]) | refine WA_ct rfl ?_ | refine WA_cf rfl ?_))
  refine WA_forP (fun k => [(6, .int .i64 k), (8, J), (9, J), (10, J), (11, J), (12, J), (13, J), (14, J), (15, J), (16, J), (17, J), (18, J)]) (fun k => [(3, ⟨Bs 256 (pre k (thenF p q) fun _ => 0), true⟩)]) (256) ?_ ?_ ?_ <;> (try simp only [patT_cons, patT_nil, patL_cons, patL_nil, list_set_zero, list_set_succ, blk_set_zero, blk_set_succ])
  · rw [pre_zero]
    (refine Drop_slots (by first | exact Nat.le_refl _ | simp) ?_; focus ((try simp only [JL_same, JL_J, JL_nil, Int.reduceAdd, Nat.sub_sub, Int.natCast_add, Int.natCast_one, Int.natCast_zero, Int.cast_ofNat_Int, Nat.add_zero, Bool.false_eq_true, if_false, if_true]); (try exact JL_refl _)))
  · intro i hi
    have hp := u8_lt (p i)
    (repeat (first | ((first | (refine And.intro ?_ ?_; focus exact PLA) | refine WA_seq (WA_region ?_) | refine WA_region ?_ | refine WA_exit ?_); try simp (maxSteps := 1000000) (disch := first | omega | rfl | decide | (simp only [List.length_cons, List.length_nil, List.length_append, LV] <;> omega)) only [go_sem, Nat.reduceAdd, Int.reduceAdd, Int.reduceSub, Int.reduceMul, Bool.not_true, Bool.not_false, upd_pre, show q (p i).toNat = thenF p q i from rfl]) | refine WA_seq ?_ | refine WA_block ?_ | (refine WA_skip ?_; try simp only [go_sem]) | (refine WA_ret ?_; try simp only [go_sem]) | refine WA_ct rfl ?_ | refine WA_cf rfl ?_))
    (refine Drop_slots (by first | exact Nat.le_refl _ | simp) ?_; focus ((try simp only [JL_same, JL_J, JL_nil, Int.reduceAdd, Nat.sub_sub, Int.natCast_add, Int.natCast_one, Int.natCast_zero, Int.cast_ofNat_Int, Nat.add_zero, Bool.false_eq_true, if_false, if_true]); (try exact JL_refl _)))
  · (repeat (first | ((first | (refine And.intro ?_ ?_; focus exact PLA) | refine WA_seq (WA_region ?_) | refine WA_region ?_ | refine WA_exit ?_); try simp (maxSteps := 1000000) (disch := first | omega | rfl | decide | (simp only [List.length_cons, List.length_nil, List.length_append, LV] <;> omega)) only [go_sem, Nat.reduceAdd, Int.reduceAdd, Int.reduceSub, Int.reduceMul, Bool.not_true, Bool.not_false]) | refine WA_seq ?_ | refine WA_block ?_ | (refine WA_skip ?_; try simp only [go_sem]) | (refine WA_ret ?_; try simp only [go_sem]) | refine WA_ct rfl ?_ | refine WA_cf rfl ?_))
    ((first | refine ret_nA ?_ | refine ret_sA ?_ | refine ret_fA ?_); simp (maxSteps := 1000000) (disch := first | omega | rfl | decide | (simp only [List.length_cons, List.length_nil, List.length_append, LV] <;> omega)) only [go_sem, Nat.reduceAdd, Int.reduceAdd, Int.reduceSub, Int.reduceMul, Bool.not_true, Bool.not_false, Bs_pre]; try rfl)

def hBoxF : Nat → UInt8 := thenF (powF 285 254) (rotF 90)
def hMixF : Nat → UInt8 := fun n => inv 285 (UInt8.ofNat ((n / 4) ^^^ (4 + n % 4)))
theorem hMix_at {i j : Nat} (hj : j < 4) : inv 285 (UInt8.ofNat (i ^^^ (4 + j))) = hMixF (i * 4 + j) := by
  unfold hMixF; rw [show (i * 4 + j) / 4 = i by omega, show (i * 4 + j) % 4 = j by omega]
def hPlF : Nat → UInt8 := fun i => UInt8.ofNat ((13 * i + 4) % 16)
def zF : Nat → UInt8 := fun _ => 0
theorem Ci_splice0 (a0 : Int) (a1 a2 a3 : Nat → UInt8) (a4 x : Int) : splice (Ci a0 a1 a2 a3 a4) 0 [.int .i64 x] = Ci x a1 a2 a3 a4 := by
  rw [Ci_cut0, mid_splice (n := 1) (by simp) (by simp) (by simp)]; rfl
theorem Ci_splice4 (a0 : Int) (a1 a2 a3 : Nat → UInt8) (a4 x : Int) : splice (Ci a0 a1 a2 a3 a4) 289 [.int .i64 x] = Ci a0 a1 a2 a3 x := by
  have h := mid_splice (A := [.int .i64 a0] ++ (Bs 256 a1 ++ (Bs 16 a2 ++ Bs 16 a3))) (s := [.int .i64 a4]) (R := []) (x := [.int .i64 x]) (o := 289) (n := 1) (by simp [Bs_length]) (by simp) (by simp)
  simpa [Ci] using h
theorem splice_all {l x : List Value} (h : l.length = x.length) : splice l 0 x = x := by
  have := mid_splice (A := []) (s := l) (R := []) (x := x) (o := 0) (n := l.length) rfl rfl h.symm
  simpa using this
theorem Ci_splice_all (a0 : Int) (a1 a2 a3 : Nat → UInt8) (a4 : Int) (b0 : Int) (b1 b2 b3 : Nat → UInt8) (b4 : Int) : splice (Ci a0 a1 a2 a3 a4) 0 (Ci b0 b1 b2 b3 b4) = Ci b0 b1 b2 b3 b4 := splice_all (by simp [Ci_length])

theorem houseS_ac (r : Int) (h : List Blk) : AC Try.prog 62 [.int .i64 r] h (.agg (Ci 285 hBoxF hMixF hPlF r).toArray) h := by
  have hp : ∀ h, AC Try.prog 99 [.int .i64 285, .int .i64 254] h (.agg (Bs 256 (powF 285 254)).toArray) h := fun h => powS_ac (m := 285) (by omega) (by omega) (e := 254) (by omega) h
  have hi : ∀ a h, AC Try.prog 101 [.int .i64 285, B a] h (B (inv 285 a)) h := fun a h => invS_ac (m := 285) (by omega) (by omega) a h
  (refine AC_begin (fun _ _ => Try.call62 _ _) Try.func62 rfl Try.ntmps62 Try.results62 (fun hwf => ?_); simp only [List.length_cons, List.length_nil, Nat.reduceAdd, Nat.reduceSub, List.replicate, List.cons_append, List.nil_append])
  (repeat (first | ((first | (refine And.intro ?_ ?_; focus exact PLA) | ((first | with_reducible apply callB_i | with_reducible apply callK_intro | with_reducible apply callQ_i); (focus (first | assumption | ((first | with_reducible apply hp | with_reducible apply rotS_ac | with_reducible apply thenS_ac) <;> (first | assumption | rfl | (simp (disch := omega) only [go_sem]; first | done | rfl) | omega | decide | (simp; done))))); (try exact WP_au)) | refine WA_seq (WA_region ?_) | refine WA_region ?_ | refine WA_exit ?_); try simp (maxSteps := 1000000) (disch := first | omega | rfl | decide | (simp only [List.length_cons, List.length_nil, List.length_append, LV] <;> omega)) only [go_sem, Nat.reduceAdd, Int.reduceAdd, Int.reduceSub, Int.reduceMul, Bool.not_true, Bool.not_false, Ci_splice0, Ci_splice4, Ci_splice_all, Ci_splice1]) | refine WA_seq ?_ | refine WA_block ?_ | (refine WA_skip ?_; try simp only [go_sem]) | (refine WA_ret ?_; try simp only [go_sem]) | refine WA_ct rfl ?_ | refine WA_cf rfl ?_))
  refine WA_forP (fun k => [(4, .int .i64 k), (5, J), (14, J), (15, J), (16, J), (17, J), (18, J), (19, J), (20, J), (21, J), (22, J), (23, J), (24, J), (25, J), (26, J), (27, J), (28, J), (29, J), (30, J), (31, J), (32, J)]) (fun k => [(1, ⟨Ci 285 hBoxF (pre (k * 4) hMixF zF) zF r, true⟩)]) (4) ?_ ?_ ?_ <;> (try simp only [patT_cons, patT_nil, patL_cons, patL_nil, list_set_zero, list_set_succ, blk_set_zero, blk_set_succ])
  · rw [Nat.zero_mul, pre_zero]
    (refine Drop_slots (by first | exact Nat.le_refl _ | simp) ?_; focus ((try simp only [JL_same, JL_J, JL_nil, Int.reduceAdd, Nat.sub_sub, Int.natCast_add, Int.natCast_one, Int.natCast_zero, Int.cast_ofNat_Int, Nat.add_zero, Bool.false_eq_true, if_false, if_true]); (try exact JL_refl _)))
  · intro i hi4
    (repeat (first | ((first | (refine And.intro ?_ ?_; focus exact PLA) | refine WA_seq (WA_region ?_) | refine WA_region ?_ | refine WA_exit ?_); try simp (maxSteps := 1000000) (disch := first | omega | rfl | decide | (simp only [List.length_cons, List.length_nil, List.length_append, LV] <;> omega)) only [go_sem, Nat.reduceAdd, Int.reduceAdd, Int.reduceSub, Int.reduceMul, Bool.not_true, Bool.not_false]) | refine WA_seq ?_ | refine WA_block ?_ | (refine WA_skip ?_; try simp only [go_sem]) | (refine WA_ret ?_; try simp only [go_sem]) | refine WA_ct rfl ?_ | refine WA_cf rfl ?_))
    refine WA_forP (fun k => [(5, .int .i64 k), (18, J), (19, J), (20, J), (21, J), (22, J), (23, J), (24, J), (25, J), (26, J), (27, J), (28, J), (29, J), (30, J), (31, J), (32, J)]) (fun k => [(1, ⟨Ci 285 hBoxF (pre (i * 4 + k) hMixF zF) zF r, true⟩)]) (4) ?_ ?_ ?_ <;> (try simp only [patT_cons, patT_nil, patL_cons, patL_nil, list_set_zero, list_set_succ, blk_set_zero, blk_set_succ])
    · (refine Drop_slots (by first | exact Nat.le_refl _ | simp) ?_; focus ((try simp only [JL_same, JL_J, JL_nil, Int.reduceAdd, Nat.sub_sub, Int.natCast_add, Int.natCast_one, Int.natCast_zero, Int.cast_ofNat_Int, Nat.add_zero, Bool.false_eq_true, if_false, if_true]); (try exact JL_refl _)))
    · intro j hj
      have hx := bits_xor_N (a := i) (b := 4 + j) (by omega) (by omega)
      (repeat (first | ((first | (refine And.intro ?_ ?_; focus exact PLA) | ((first | with_reducible apply callB_i | with_reducible apply callK_intro | with_reducible apply callQ_i); (focus (first | assumption | (with_reducible apply hi <;> (first | assumption | rfl | (simp (disch := omega) only [go_sem]; first | done | rfl) | omega | decide | (simp; done))))); (try exact WP_au)) | refine WA_seq (WA_region ?_) | refine WA_region ?_ | refine WA_exit ?_); try simp (maxSteps := 1000000) (disch := first | omega | rfl | decide | (simp only [List.length_cons, List.length_nil, List.length_append, LV] <;> omega)) only [go_sem, Nat.reduceAdd, Int.reduceAdd, Int.reduceSub, Int.reduceMul, Bool.not_true, Bool.not_false, hx, hMix_at hj, upd_pre]) | (refine (WA_rb (id := 9) [11] (SubM.refl _) mixedOk ?_); simp only [List.size_toArray, List.length_cons, List.length_nil]; (repeat (first | ((first | (refine And.intro ?_ ?_; focus exact PLA) | ((first | with_reducible apply callB_i | with_reducible apply callK_intro | with_reducible apply callQ_i); (focus (first | assumption | (with_reducible apply hi <;> (first | assumption | rfl | (simp (disch := omega) only [go_sem]; first | done | rfl) | omega | decide | (simp; done))))); (try exact WP_au)) | refine RB_take false [0, 1, 2, 3, 4, 5, 6, 8, 9] 3 (by rfl) (by kernel_rfl) (by decide) (by decide +kernel) ?_ | refine RB_take true [7] 2 (by rfl) (by kernel_rfl) (by decide) (by decide +kernel) ?_ | refine RB_take false [10] 1 (by rfl) (by kernel_rfl) (by decide) (by decide +kernel) ?_ | refine RB_exec 11 _ (by rfl) (by decide +kernel) (by decide +kernel) ?_ | refine RB_done (by decide +kernel) ?_); try simp (maxSteps := 1000000) (disch := first | omega | rfl | decide | (simp only [List.length_cons, List.length_nil, List.length_append, LV] <;> omega)) only [go_sem, Nat.reduceAdd, Int.reduceAdd, Int.reduceSub, Int.reduceMul, Bool.not_true, Bool.not_false, hx, hMix_at hj, upd_pre])))) | refine WA_seq ?_ | refine WA_block ?_ | (refine WA_skip ?_; try simp only [go_sem]) | (refine WA_ret ?_; try simp only [go_sem]) | refine WA_ct rfl ?_ | refine WA_cf rfl ?_))
      (refine Drop_slots (by first | exact Nat.le_refl _ | simp) ?_; focus ((try simp only [JL_same, JL_J, JL_nil, Int.reduceAdd, Nat.sub_sub, Int.natCast_add, Int.natCast_one, Int.natCast_zero, Int.cast_ofNat_Int, Nat.add_zero, Bool.false_eq_true, if_false, if_true]); (try exact JL_refl _)))
    · (repeat (first | ((first | (refine And.intro ?_ ?_; focus exact PLA) | refine WA_seq (WA_region ?_) | refine WA_region ?_ | refine WA_exit ?_); try simp (maxSteps := 1000000) (disch := first | omega | rfl | decide | (simp only [List.length_cons, List.length_nil, List.length_append, LV] <;> omega)) only [go_sem, Nat.reduceAdd, Int.reduceAdd, Int.reduceSub, Int.reduceMul, Bool.not_true, Bool.not_false]) | refine WA_seq ?_ | refine WA_block ?_ | (refine WA_skip ?_; try simp only [go_sem]) | (refine WA_ret ?_; try simp only [go_sem]) | refine WA_ct rfl ?_ | refine WA_cf rfl ?_))
      rw [show (i + 1) * 4 = i * 4 + 4 by omega]
      (refine Drop_slots (by first | exact Nat.le_refl _ | simp) ?_; focus ((try simp only [JL_same, JL_J, JL_nil, Int.reduceAdd, Nat.sub_sub, Int.natCast_add, Int.natCast_one, Int.natCast_zero, Int.cast_ofNat_Int, Nat.add_zero, Bool.false_eq_true, if_false, if_true]); (try exact JL_refl _)))
  · (repeat (first | ((first | (refine And.intro ?_ ?_; focus exact PLA) | refine WA_seq (WA_region ?_) | refine WA_region ?_ | refine WA_exit ?_); try simp (maxSteps := 1000000) (disch := first | omega | rfl | decide | (simp only [List.length_cons, List.length_nil, List.length_append, LV] <;> omega)) only [go_sem, Nat.reduceAdd, Int.reduceAdd, Int.reduceSub, Int.reduceMul, Bool.not_true, Bool.not_false]) | refine WA_seq ?_ | refine WA_block ?_ | (refine WA_skip ?_; try simp only [go_sem]) | (refine WA_ret ?_; try simp only [go_sem]) | refine WA_ct rfl ?_ | refine WA_cf rfl ?_))
    refine WA_forP (fun k => [(6, .int .i64 k), (33, J), (34, J), (35, J), (36, J), (37, J), (38, J), (39, J), (40, J), (41, J), (42, J), (43, J), (44, J)]) (fun k => [(1, ⟨Ci 285 hBoxF (pre 16 hMixF zF) (pre k hPlF zF) r, true⟩)]) (16) ?_ ?_ ?_ <;> (try simp only [patT_cons, patT_nil, patL_cons, patL_nil, list_set_zero, list_set_succ, blk_set_zero, blk_set_succ])
    · rw [pre_zero]
      (refine Drop_slots (by first | exact Nat.le_refl _ | simp) ?_; focus ((try simp only [JL_same, JL_J, JL_nil, Int.reduceAdd, Nat.sub_sub, Int.natCast_add, Int.natCast_one, Int.natCast_zero, Int.cast_ofNat_Int, Nat.add_zero, Bool.false_eq_true, if_false, if_true]); (try exact JL_refl _)))
    · intro i hi16
      (repeat (first | ((first | (refine And.intro ?_ ?_; focus exact PLA) | refine WA_seq (WA_region ?_) | refine WA_region ?_ | refine WA_exit ?_); try simp (maxSteps := 1000000) (disch := first | omega | rfl | decide | (simp only [List.length_cons, List.length_nil, List.length_append, LV] <;> omega)) only [go_sem, Nat.reduceAdd, Int.reduceAdd, Int.reduceSub, Int.reduceMul, Bool.not_true, Bool.not_false, upd_pre, show UInt8.ofNat ((13 * i + 4) % 16) = hPlF i from rfl]) | refine WA_seq ?_ | refine WA_block ?_ | (refine WA_skip ?_; try simp only [go_sem]) | (refine WA_ret ?_; try simp only [go_sem]) | refine WA_ct rfl ?_ | refine WA_cf rfl ?_))
      (refine Drop_slots (by first | exact Nat.le_refl _ | simp) ?_; focus ((try simp only [JL_same, JL_J, JL_nil, Int.reduceAdd, Nat.sub_sub, Int.natCast_add, Int.natCast_one, Int.natCast_zero, Int.cast_ofNat_Int, Nat.add_zero, Bool.false_eq_true, if_false, if_true]); (try exact JL_refl _)))
    · (repeat (first | ((first | (refine And.intro ?_ ?_; focus exact PLA) | refine WA_seq (WA_region ?_) | refine WA_region ?_ | refine WA_exit ?_); try simp (maxSteps := 1000000) (disch := first | omega | rfl | decide | (simp only [List.length_cons, List.length_nil, List.length_append, LV] <;> omega)) only [go_sem, Nat.reduceAdd, Int.reduceAdd, Int.reduceSub, Int.reduceMul, Bool.not_true, Bool.not_false]) | refine WA_seq ?_ | refine WA_block ?_ | (refine WA_skip ?_; try simp only [go_sem]) | (refine WA_ret ?_; try simp only [go_sem]) | refine WA_ct rfl ?_ | refine WA_cf rfl ?_))
      ((first | refine ret_nA ?_ | refine ret_sA ?_ | refine ret_fA ?_); simp (maxSteps := 1000000) (disch := first | omega | rfl | decide | (simp only [List.length_cons, List.length_nil, List.length_append, LV] <;> omega)) only [go_sem, Nat.reduceAdd, Int.reduceAdd, Int.reduceSub, Int.reduceMul, Bool.not_true, Bool.not_false]; try rfl)

end Go.Proofs.Ytcfpninklbnifaa
/- Draws of fields and boxes. -/
namespace Go.Proofs.Ytcfpninklbnifaa
set_option linter.unusedSimpArgs false
set_option linter.unusedVariables false
set_option maxRecDepth 20000
set_option maxHeartbeats 1000000
open Go.Abs

theorem fl_field : ∀ (k : Nat) (x : Int), x ∈ fl k → ∃ n : Nat, x = n ∧ fieldB n = true
  | 0, x, h => by simp [fl] at h
  | k + 1, x, h => by
    unfold fl at h
    split at h
    · rename_i hf
      rcases List.mem_append.1 h with h | h
      · exact fl_field k x h
      · exact ⟨256 + k, by simpa using h, hf⟩
    · exact fl_field k x h
theorem FL_field {i : Nat} {v : Int} (h : (Il FL)[i]? = some (.int .i64 v)) : ∃ n : Nat, v = n ∧ fieldB n = true := by
  rw [← FL_eq] at h
  unfold Il at h
  rw [List.getElem?_map, Option.map_eq_some_iff] at h
  obtain ⟨x, hx, e⟩ := h
  cases e
  exact fl_field 256 _ (List.mem_of_getElem? hx)
theorem fieldB_lt {n : Nat} (hf : fieldB n = true) : 256 ≤ n ∧ n < 512 := by
  obtain ⟨k, e, _, h0, h1⟩ := fieldB_nat (m := (n : Int)) (by rw [Int.toNat_natCast]; exact hf)
  omega
theorem f285 : fieldB 285 = true := by decide +kernel
/-- A drawn field is one. -/
theorem drawFld_aft {h : List Blk} {b : Nat} {cv : Value} (s : SrcAt h b cv) :
    ∃ (n : Nat) (h' : List Blk), fieldB n = true ∧ Aft h h' b cv ∧ AC Try.prog 122 [pt b 0] h (.int .i64 n) h' := by
  have hbl := s.lt
  have hfp := FL_pos
  have hfl := FL_le
  have a0 := s.more [⟨Il FL, true⟩]
  obtain ⟨x1, h1, hx1, a1, c1⟩ := next_aft a0.src (N := FL.length) hfp (by omega)
  obtain ⟨x2, h2, hx2, a2, c2⟩ := next_aft a1.src (N := FL.length) hfp (by omega)
  have hF0 : (h ++ [(⟨Il FL, true⟩ : Blk)])[h.length]? = some ⟨Il FL, true⟩ := by simp
  have hF1 := a1.keep _ _ (by omega) hF0
  have hF2 := a2.keep _ _ (by omega) hF1
  obtain ⟨v1, hv1⟩ := ints_at (Il_isI FL) (Nat.le_of_eq (Il_length FL).symm) x1 hx1
  obtain ⟨v2, hv2⟩ := ints_at (Il_isI FL) (Nat.le_of_eq (Il_length FL).symm) x2 hx2
  obtain ⟨v, h3, ⟨i, hi, hvi⟩, a4, c3⟩ := pickL_aft a2.src [.int .i64 285, .int .i64 v1, .int .i64 v2] (n := 3) rfl rfl (by omega) (by omega)
  have hA := ((a0.trans a1).trans a2).trans a4
  have hlen := hA.len
  obtain ⟨n, rfl, hn⟩ : ∃ n : Nat, v = n ∧ fieldB n = true := by
    match i, hi, hvi with
    | 0, _, e => cases e; exact ⟨285, rfl, f285⟩
    | 1, _, e => cases e; exact FL_field hv1
    | 2, _, e => cases e; exact FL_field hv2
    | n + 3, h, _ => exact absurd h (by omega)
  refine ⟨n, h3, hn, hA, ?_⟩
  clear a0 a1 a2 a4
  (refine AC_begin (fun _ _ => Try.call122 _ _) Try.func122 rfl Try.ntmps122 Try.results122 (fun hwf => ?_); simp only [List.length_cons, List.length_nil, Nat.reduceAdd, Nat.reduceSub, List.replicate, List.cons_append, List.nil_append])
  (repeat (first | ((first | (refine And.intro ?_ ?_; focus exact PLA) | ((first | with_reducible apply callB_i | with_reducible apply callK_intro | with_reducible apply callQ_i); (focus (first | assumption | ((first | with_reducible apply fieldsS_ac | with_reducible apply c1 | with_reducible apply c2 | with_reducible apply c3) <;> (first | assumption | rfl | (simp (disch := omega) only [go_sem]; first | done | rfl) | omega | decide | (simp; done))))); (try exact WP_au)) | refine WA_seq (WA_region ?_) | refine WA_region ?_ | refine WA_exit ?_); try simp (maxSteps := 1000000) (disch := first | omega | rfl | decide | (simp only [List.length_cons, List.length_nil, List.length_append, LV] <;> omega)) only [go_sem, Nat.reduceAdd, Int.reduceAdd, Int.reduceSub, Int.reduceMul, Bool.not_true, Bool.not_false, hF1, hF2, hv1, hv2]) | (refine (WA_rb (id := 2) [5, 7, 12, 14, 15, 16] (SubM.refl _) mixedOk ?_); simp only [List.size_toArray, List.length_cons, List.length_nil]; (repeat' (first | ((first | (refine And.intro ?_ ?_; focus exact PLA) | ((first | with_reducible apply callB_i | with_reducible apply callK_intro | with_reducible apply callQ_i); (focus (first | assumption | ((first | with_reducible apply fieldsS_ac | with_reducible apply c1 | with_reducible apply c2 | with_reducible apply c3) <;> (first | assumption | rfl | (simp (disch := omega) only [go_sem]; first | done | rfl) | omega | decide | (simp; done))))); (try exact WP_au)) | refine RB_take false [0, 1, 2, 3, 4, 8, 9, 10, 11] 9 (by rfl) (by kernel_rfl) (by decide) (by decide +kernel) ?_ | refine RB_exec 5 _ (by rfl) (by decide +kernel) (by decide +kernel) ?_ | refine RB_take false [6] 7 (by rfl) (by kernel_rfl) (by decide) (by decide +kernel) ?_ | refine RB_two 7 12 _ (by rfl) (by decide +kernel) (by decide +kernel) (by decide +kernel) ?_ ?_ | refine RB_exec 12 _ (by rfl) (by decide +kernel) (by decide +kernel) ?_ | refine RB_take false [13] 4 (by rfl) (by kernel_rfl) (by decide) (by decide +kernel) ?_ | refine RB_exec 14 _ (by rfl) (by decide +kernel) (by decide +kernel) ?_ | refine RB_exec 15 _ (by rfl) (by decide +kernel) (by decide +kernel) ?_ | refine RB_exec 16 _ (by rfl) (by decide +kernel) (by decide +kernel) ?_ | refine RB_take false [17] 0 (by rfl) (by kernel_rfl) (by decide) (by decide +kernel) ?_ | refine RB_done (by decide +kernel) ?_ | refine RB_take false [13] 5 (by rfl) (by kernel_rfl) (by decide) (by decide +kernel) ?_ | refine RB_two 7 14 _ (by rfl) (by decide +kernel) (by decide +kernel) (by decide +kernel) ?_ ?_ | refine RB_exec 7 _ (by rfl) (by decide +kernel) (by decide +kernel) ?_) <;> try simp (maxSteps := 1000000) (disch := first | omega | rfl | decide | (simp only [List.length_cons, List.length_nil, List.length_append, LV] <;> omega)) only [go_sem, Nat.reduceAdd, Int.reduceAdd, Int.reduceSub, Int.reduceMul, Bool.not_true, Bool.not_false, hF1, hF2, hv1, hv2])))) | refine WA_seq ?_ | refine WA_block ?_ | (refine WA_skip ?_; try simp only [go_sem]) | (refine WA_ret ?_; try simp only [go_sem]) | refine WA_ct rfl ?_ | refine WA_cf rfl ?_))
  all_goals (repeat (first | ((first | (refine And.intro ?_ ?_; focus exact PLA) | refine WA_seq (WA_region ?_) | refine WA_region ?_ | refine WA_exit ?_); try simp (maxSteps := 1000000) (disch := first | omega | rfl | decide | (simp only [List.length_cons, List.length_nil, List.length_append, LV] <;> omega)) only [go_sem, Nat.reduceAdd, Int.reduceAdd, Int.reduceSub, Int.reduceMul, Bool.not_true, Bool.not_false]) | refine WA_seq ?_ | refine WA_block ?_ | (refine WA_skip ?_; try simp only [go_sem]) | (refine WA_ret ?_; try simp only [go_sem]) | refine WA_ct rfl ?_ | refine WA_cf rfl ?_))
  all_goals (refine ret_full (by first | exact .inr rfl | exact .inl rfl) hlen ?_)
  all_goals simp (maxSteps := 1000000) (disch := first | omega | rfl | decide | (simp only [List.length_cons, List.length_nil, List.length_append, LV] <;> omega)) only [go_sem, Nat.reduceAdd, Int.reduceAdd, Int.reduceSub, Int.reduceMul, Bool.not_true, Bool.not_false]
  all_goals try rfl

def rotQ (x c : UInt8) : Nat → UInt8
  | 0 => c
  | k + 1 => rotQ x c k ^^^ turnS x ([0, 2, 5].getD k 0)
def rotG (c : UInt8) : Nat → UInt8 := fun i => rotQ (UInt8.ofNat i) c 3
theorem rot25_ac {h : List Blk} {b : Nat} {r : Bool} (hb : h[b]? = some ⟨[.int .i64 0, .int .i64 2, .int .i64 5], r⟩) (c : UInt8) : AC Try.prog 100 [sl b 0 3 1, B c] h (.agg (Bs 256 (rotG c)).toArray) h := by
  have hbl := blt hb
  have ht0 : ∀ x h, AC Try.prog 120 [B x, .int .i64 0] h (B (turnS x 0)) h := fun x h => turnS_ac x (k := 0) (by omega) h
  have ht1 : ∀ x h, AC Try.prog 120 [B x, .int .i64 2] h (B (turnS x 2)) h := fun x h => turnS_ac x (k := 2) (by omega) h
  have ht4 : ∀ x h, AC Try.prog 120 [B x, .int .i64 5] h (B (turnS x 5)) h := fun x h => turnS_ac x (k := 5) (by omega) h
  (refine AC_begin (fun _ _ => Try.call100 _ _) Try.func100 rfl Try.ntmps100 Try.results100 (fun hwf => ?_); simp only [List.length_cons, List.length_nil, Nat.reduceAdd, Nat.reduceSub, List.replicate, List.cons_append, List.nil_append])
  (repeat (first | ((first | (refine And.intro ?_ ?_; focus exact PLA) | refine WA_seq (WA_region ?_) | refine WA_region ?_ | refine WA_exit ?_); try simp (maxSteps := 1000000) (disch := first | omega | rfl | decide | (simp only [List.length_cons, List.length_nil, List.length_append, LV] <;> omega)) only [go_sem, Nat.reduceAdd, Int.reduceAdd, Int.reduceSub, Int.reduceMul, Bool.not_true, Bool.not_false]) | refine WA_seq ?_ | refine WA_block ?_ | (refine WA_skip ?_; try simp only [go_sem]) | (refine WA_ret ?_; try simp only [go_sem]) | refine WA_ct rfl ?_ | refine WA_cf rfl ?_))
  refine WA_forP (fun k => [(6, .int .i64 k), (7, J), (8, J), (10, J), (11, J), (12, J), (13, J), (14, J), (15, J), (16, J), (17, J), (18, J), (19, J), (20, J), (21, J), (22, J), (23, J), (24, J), (25, J), (26, J), (27, J), (28, J), (29, J), (30, J), (31, J), (32, J)]) (fun k => [(1, ⟨Bs 256 (pre k (rotG c) fun _ => 0), true⟩)]) (256) ?_ ?_ ?_ <;> (try simp only [patT_cons, patT_nil, patL_cons, patL_nil, list_set_zero, list_set_succ, blk_set_zero, blk_set_succ])
  · rw [pre_zero]
    (refine Drop_slots (by first | exact Nat.le_refl _ | simp) ?_; focus ((try simp only [JL_same, JL_J, JL_nil, Int.reduceAdd, Nat.sub_sub, Int.natCast_add, Int.natCast_one, Int.natCast_zero, Int.cast_ofNat_Int, Nat.add_zero, Bool.false_eq_true, if_false, if_true]); (try exact JL_refl _)))
  · intro i hi
    (repeat (first | ((first | (refine And.intro ?_ ?_; focus exact PLA) | refine WA_seq (WA_region ?_) | refine WA_region ?_ | refine WA_exit ?_); try simp (maxSteps := 1000000) (disch := first | omega | rfl | decide | (simp only [List.length_cons, List.length_nil, List.length_append, LV] <;> omega)) only [go_sem, Nat.reduceAdd, Int.reduceAdd, Int.reduceSub, Int.reduceMul, Bool.not_true, Bool.not_false]) | refine WA_seq ?_ | refine WA_block ?_ | (refine WA_skip ?_; try simp only [go_sem]) | (refine WA_ret ?_; try simp only [go_sem]) | refine WA_ct rfl ?_ | refine WA_cf rfl ?_))
    refine WA_forP (fun k => [(7, B (rotQ (UInt8.ofNat i) c k)), (8, .int .i64 k), (15, J), (16, J), (17, J), (18, J), (19, J), (20, J), (21, J), (22, J), (23, J), (24, J), (25, J), (26, J), (27, J), (28, J), (29, J)]) (fun k => []) (3) ?_ ?_ ?_ <;> (try simp only [patT_cons, patT_nil, patL_cons, patL_nil, list_set_zero, list_set_succ, blk_set_zero, blk_set_succ])
    · (refine Drop_slots (by first | exact Nat.le_refl _ | simp) ?_; focus ((try simp only [JL_same, JL_J, JL_nil, Int.reduceAdd, Nat.sub_sub, Int.natCast_add, Int.natCast_one, Int.natCast_zero, Int.cast_ofNat_Int, Nat.add_zero, Bool.false_eq_true, if_false, if_true, rotQ]); (try exact JL_refl _)))
    · intro k hk
      rcases (show k = 0 ∨ k = 1 ∨ k = 2 by omega) with rfl | rfl | rfl
      · (repeat (first | ((first | (refine And.intro ?_ ?_; focus exact PLA) | ((first | with_reducible apply callB_i | with_reducible apply callK_intro | with_reducible apply callQ_i); (focus (first | assumption | (with_reducible apply ht0 <;> (first | assumption | rfl | (simp (disch := omega) only [go_sem]; first | done | rfl) | omega | decide | (simp; done))))); (try exact WP_au)) | refine WA_seq (WA_region ?_) | refine WA_region ?_ | refine WA_exit ?_); try simp (maxSteps := 1000000) (disch := first | omega | rfl | decide | (simp only [List.length_cons, List.length_nil, List.length_append, LV] <;> omega)) only [go_sem, Nat.reduceAdd, Int.reduceAdd, Int.reduceSub, Int.reduceMul, Bool.not_true, Bool.not_false, look_old hb]) | refine WA_seq ?_ | refine WA_block ?_ | (refine WA_skip ?_; try simp only [go_sem]) | (refine WA_ret ?_; try simp only [go_sem]) | refine WA_ct rfl ?_ | refine WA_cf rfl ?_))
        (refine Drop_slots (by first | exact Nat.le_refl _ | simp) ?_; focus ((try simp only [JL_same, JL_J, JL_nil, Int.reduceAdd, Nat.sub_sub, Int.natCast_add, Int.natCast_one, Int.natCast_zero, Int.cast_ofNat_Int, Nat.add_zero, Bool.false_eq_true, if_false, if_true, rotQ, List.getD_cons_zero, List.getD_cons_succ]); (try exact JL_refl _)))
      · (repeat (first | ((first | (refine And.intro ?_ ?_; focus exact PLA) | ((first | with_reducible apply callB_i | with_reducible apply callK_intro | with_reducible apply callQ_i); (focus (first | assumption | (with_reducible apply ht1 <;> (first | assumption | rfl | (simp (disch := omega) only [go_sem]; first | done | rfl) | omega | decide | (simp; done))))); (try exact WP_au)) | refine WA_seq (WA_region ?_) | refine WA_region ?_ | refine WA_exit ?_); try simp (maxSteps := 1000000) (disch := first | omega | rfl | decide | (simp only [List.length_cons, List.length_nil, List.length_append, LV] <;> omega)) only [go_sem, Nat.reduceAdd, Int.reduceAdd, Int.reduceSub, Int.reduceMul, Bool.not_true, Bool.not_false, look_old hb]) | refine WA_seq ?_ | refine WA_block ?_ | (refine WA_skip ?_; try simp only [go_sem]) | (refine WA_ret ?_; try simp only [go_sem]) | refine WA_ct rfl ?_ | refine WA_cf rfl ?_))
        (refine Drop_slots (by first | exact Nat.le_refl _ | simp) ?_; focus ((try simp only [JL_same, JL_J, JL_nil, Int.reduceAdd, Nat.sub_sub, Int.natCast_add, Int.natCast_one, Int.natCast_zero, Int.cast_ofNat_Int, Nat.add_zero, Bool.false_eq_true, if_false, if_true, rotQ, List.getD_cons_zero, List.getD_cons_succ]); (try exact JL_refl _)))
      · (repeat (first | ((first | (refine And.intro ?_ ?_; focus exact PLA) | ((first | with_reducible apply callB_i | with_reducible apply callK_intro | with_reducible apply callQ_i); (focus (first | assumption | (with_reducible apply ht4 <;> (first | assumption | rfl | (simp (disch := omega) only [go_sem]; first | done | rfl) | omega | decide | (simp; done))))); (try exact WP_au)) | refine WA_seq (WA_region ?_) | refine WA_region ?_ | refine WA_exit ?_); try simp (maxSteps := 1000000) (disch := first | omega | rfl | decide | (simp only [List.length_cons, List.length_nil, List.length_append, LV] <;> omega)) only [go_sem, Nat.reduceAdd, Int.reduceAdd, Int.reduceSub, Int.reduceMul, Bool.not_true, Bool.not_false, look_old hb]) | refine WA_seq ?_ | refine WA_block ?_ | (refine WA_skip ?_; try simp only [go_sem]) | (refine WA_ret ?_; try simp only [go_sem]) | refine WA_ct rfl ?_ | refine WA_cf rfl ?_))
        (refine Drop_slots (by first | exact Nat.le_refl _ | simp) ?_; focus ((try simp only [JL_same, JL_J, JL_nil, Int.reduceAdd, Nat.sub_sub, Int.natCast_add, Int.natCast_one, Int.natCast_zero, Int.cast_ofNat_Int, Nat.add_zero, Bool.false_eq_true, if_false, if_true, rotQ, List.getD_cons_zero, List.getD_cons_succ]); (try exact JL_refl _)))
    · (repeat (first | ((first | (refine And.intro ?_ ?_; focus exact PLA) | refine WA_seq (WA_region ?_) | refine WA_region ?_ | refine WA_exit ?_); try simp (maxSteps := 1000000) (disch := first | omega | rfl | decide | (simp only [List.length_cons, List.length_nil, List.length_append, LV] <;> omega)) only [go_sem, Nat.reduceAdd, Int.reduceAdd, Int.reduceSub, Int.reduceMul, Bool.not_true, Bool.not_false, upd_pre, show rotQ (UInt8.ofNat i) c 3 = rotG c i from rfl]) | refine WA_seq ?_ | refine WA_block ?_ | (refine WA_skip ?_; try simp only [go_sem]) | (refine WA_ret ?_; try simp only [go_sem]) | refine WA_ct rfl ?_ | refine WA_cf rfl ?_))
      (refine Drop_slots (by first | exact Nat.le_refl _ | simp) ?_; focus ((try simp only [JL_same, JL_J, JL_nil, Int.reduceAdd, Nat.sub_sub, Int.natCast_add, Int.natCast_one, Int.natCast_zero, Int.cast_ofNat_Int, Nat.add_zero, Bool.false_eq_true, if_false, if_true]); (try exact JL_refl _)))
  · (repeat (first | ((first | (refine And.intro ?_ ?_; focus exact PLA) | refine WA_seq (WA_region ?_) | refine WA_region ?_ | refine WA_exit ?_); try simp (maxSteps := 1000000) (disch := first | omega | rfl | decide | (simp only [List.length_cons, List.length_nil, List.length_append, LV] <;> omega)) only [go_sem, Nat.reduceAdd, Int.reduceAdd, Int.reduceSub, Int.reduceMul, Bool.not_true, Bool.not_false]) | refine WA_seq ?_ | refine WA_block ?_ | (refine WA_skip ?_; try simp only [go_sem]) | (refine WA_ret ?_; try simp only [go_sem]) | refine WA_ct rfl ?_ | refine WA_cf rfl ?_))
    ((first | refine ret_nA ?_ | refine ret_sA ?_ | refine ret_fA ?_); simp (maxSteps := 1000000) (disch := first | omega | rfl | decide | (simp only [List.length_cons, List.length_nil, List.length_append, LV] <;> omega)) only [go_sem, Nat.reduceAdd, Int.reduceAdd, Int.reduceSub, Int.reduceMul, Bool.not_true, Bool.not_false, Bs_pre]; try rfl)

theorem sameS_ac (h : List Blk) : AC Try.prog 128 [] h (.agg (Bs 256 (idF 256)).toArray) h := by
  (refine AC_begin (fun _ _ => Try.call128 _ _) Try.func128 rfl Try.ntmps128 Try.results128 (fun hwf => ?_); simp only [List.length_cons, List.length_nil, Nat.reduceAdd, Nat.reduceSub, List.replicate, List.cons_append, List.nil_append])
  (repeat (first | ((first | (refine And.intro ?_ ?_; focus exact PLA) | refine WA_seq (WA_region ?_) | refine WA_region ?_ | refine WA_exit ?_); try simp (maxSteps := 1000000) (disch := first | omega | rfl | decide | (simp only [List.length_cons, List.length_nil, List.length_append, LV] <;> omega)) only [go_sem, Nat.reduceAdd, Int.reduceAdd, Int.reduceSub, Int.reduceMul, Bool.not_true, Bool.not_false]) | refine WA_seq ?_ | refine WA_block ?_ | (refine WA_skip ?_; try simp only [go_sem]) | (refine WA_ret ?_; try simp only [go_sem]) | refine WA_ct rfl ?_ | refine WA_cf rfl ?_))
  refine WA_forP (fun k => [(2, .int .i64 k), (4, J), (5, J), (6, J), (7, J), (8, J), (9, J), (10, J), (11, J)]) (fun k => [(1, ⟨Bs 256 (idF k), true⟩)]) (256) ?_ ?_ ?_ <;> (try simp only [patT_cons, patT_nil, patL_cons, patL_nil, list_set_zero, list_set_succ, blk_set_zero, blk_set_succ])
  · rw [idF_zero]
    (refine Drop_slots (by first | exact Nat.le_refl _ | simp) ?_; focus ((try simp only [JL_same, JL_J, JL_nil, Int.reduceAdd, Nat.sub_sub, Int.natCast_add, Int.natCast_one, Int.natCast_zero, Int.cast_ofNat_Int, Nat.add_zero, Bool.false_eq_true, if_false, if_true]); (try exact JL_refl _)))
  · intro k hk
    (repeat (first | ((first | (refine And.intro ?_ ?_; focus exact PLA) | refine WA_seq (WA_region ?_) | refine WA_region ?_ | refine WA_exit ?_); try simp (maxSteps := 1000000) (disch := first | omega | rfl | decide | (simp only [List.length_cons, List.length_nil, List.length_append, LV] <;> omega)) only [go_sem, Nat.reduceAdd, Int.reduceAdd, Int.reduceSub, Int.reduceMul, Bool.not_true, Bool.not_false, idF_set]) | refine WA_seq ?_ | refine WA_block ?_ | (refine WA_skip ?_; try simp only [go_sem]) | (refine WA_ret ?_; try simp only [go_sem]) | refine WA_ct rfl ?_ | refine WA_cf rfl ?_))
    (refine Drop_slots (by first | exact Nat.le_refl _ | simp) ?_; focus ((try simp only [JL_same, JL_J, JL_nil, Int.reduceAdd, Nat.sub_sub, Int.natCast_add, Int.natCast_one, Int.natCast_zero, Int.cast_ofNat_Int, Nat.add_zero, Bool.false_eq_true, if_false, if_true]); (try exact JL_refl _)))
  · (repeat (first | ((first | (refine And.intro ?_ ?_; focus exact PLA) | refine WA_seq (WA_region ?_) | refine WA_region ?_ | refine WA_exit ?_); try simp (maxSteps := 1000000) (disch := first | omega | rfl | decide | (simp only [List.length_cons, List.length_nil, List.length_append, LV] <;> omega)) only [go_sem, Nat.reduceAdd, Int.reduceAdd, Int.reduceSub, Int.reduceMul, Bool.not_true, Bool.not_false]) | refine WA_seq ?_ | refine WA_block ?_ | (refine WA_skip ?_; try simp only [go_sem]) | (refine WA_ret ?_; try simp only [go_sem]) | refine WA_ct rfl ?_ | refine WA_cf rfl ?_))
    ((first | refine ret_nA ?_ | refine ret_sA ?_ | refine ret_fA ?_); simp (maxSteps := 1000000) (disch := first | omega | rfl | decide | (simp only [List.length_cons, List.length_nil, List.length_append, LV] <;> omega)) only [go_sem, Nat.reduceAdd, Int.reduceAdd, Int.reduceSub, Int.reduceMul, Bool.not_true, Bool.not_false]; try rfl)

theorem shuffle_aft {h : List Blk} {b : Nat} {cv : Value} (s : SrcAt h b cv) :
    ∃ (f : Nat → UInt8) (h' : List Blk), Aft h h' b cv ∧ AC Try.prog 129 [pt b 0] h (.agg (Bs 256 f).toArray) h' := by
  have hbl := s.lt
  have a0 := s.more [⟨Bs 256 zeroF, true⟩, ⟨Bs 256 (idF 256), true⟩]
  obtain ⟨st, e0, hI, hRt⟩ := seq_ex (S := List Blk × (Nat → UInt8)) (n := 255)
    (I := fun _ s => s.1[h.length + 1]? = some ⟨Bs 256 s.2, true⟩ ∧ s.1[h.length]? = some ⟨Bs 256 zeroF, true⟩ ∧ Aft h s.1 b cv)
    (R := fun k s t => ∃ (x : Nat) (M : List Blk), x < 255 - k + 1 ∧ AC Try.prog 53 [pt b 0, .int .i64 ((255 - k + 1 : Nat) : Int)] s.1 (.int .i64 x) M ∧ M[h.length + 1]? = some ⟨Bs 256 s.2, true⟩ ∧ t = (M.set (h.length + 1) ⟨Bs 256 (upd (upd s.2 (255 - k) (s.2 x)) x (s.2 (255 - k))), true⟩, upd (upd s.2 (255 - k) (s.2 x)) x (s.2 (255 - k))))
    (h ++ [⟨Bs 256 zeroF, true⟩, ⟨Bs 256 (idF 256), true⟩], idF 256) ⟨by simp, by simp, a0⟩ (fun k hk s0 ⟨i1, i2, i3⟩ => by
      obtain ⟨x, M, hx, a, c⟩ := next_aft i3.src (N := 255 - k + 1) (by omega) (by omega)
      have j1 := a.keep _ _ (by omega) i1
      have j2 := a.keep _ _ (by omega) i2
      exact ⟨_, ⟨look_set (blt j1), set_at j2 (by omega), (i3.trans a).set s (by omega) _⟩, x, M, hx, c, j1, rfl⟩)
  obtain ⟨f1, f2, f3⟩ := hI 255 (Nat.le_refl _)
  have hlen := f3.len
  refine ⟨(st 255).2, (st 255).1.set h.length ⟨Bs 256 (st 255).2, true⟩, f3.set s (Nat.le_refl _) _, ?_⟩
  (refine AC_begin (fun _ _ => Try.call129 _ _) Try.func129 rfl Try.ntmps129 Try.results129 (fun hwf => ?_); simp only [List.length_cons, List.length_nil, Nat.reduceAdd, Nat.reduceSub, List.replicate, List.cons_append, List.nil_append])
  (repeat (first | ((first | (refine And.intro ?_ ?_; focus exact PLA) | ((first | with_reducible apply callB_i | with_reducible apply callK_intro | with_reducible apply callQ_i); (focus (first | assumption | (with_reducible apply sameS_ac <;> (first | assumption | rfl | (simp (disch := omega) only [go_sem]; first | done | rfl) | omega | decide | (simp; done))))); (try exact WP_au)) | refine WA_seq (WA_region ?_) | refine WA_region ?_ | refine WA_exit ?_); try simp (maxSteps := 1000000) (disch := first | omega | rfl | decide | (simp only [List.length_cons, List.length_nil, List.length_append, LV] <;> omega)) only [go_sem, Nat.reduceAdd, Int.reduceAdd, Int.reduceSub, Int.reduceMul, Bool.not_true, Bool.not_false]) | refine WA_seq ?_ | refine WA_block ?_ | (refine WA_skip ?_; try simp only [go_sem]) | (refine WA_ret ?_; try simp only [go_sem]) | refine WA_ct rfl ?_ | refine WA_cf rfl ?_))
  refine WA_forH (fun k => [(4, .int .i64 ((255 - k : Nat))), (5, J), (6, J), (8, J), (9, J), (10, J), (11, J), (12, J), (13, J), (14, J), (15, J), (16, J), (17, J), (18, J), (19, J), (20, J), (21, J), (22, J), (23, J), (24, J), (25, J), (26, J)]) (fun k => (st k).1) (255) ?_ ?_ ?_ <;> (try simp only [patT_cons, patT_nil, patL_cons, patL_nil, list_set_zero, list_set_succ, blk_set_zero, blk_set_succ])
  · have e1 : (st 0).1 = h ++ [⟨Bs 256 zeroF, true⟩, ⟨Bs 256 (idF 256), true⟩] := by rw [e0]
    have l1 := a0.len
    rw [e1]
    (refine Drop_slots (by first | assumption | exact Nat.le_refl _) ?_; focus ((try simp only [JL_same, JL_J, JL_nil, Int.reduceAdd, Nat.sub_sub, Int.natCast_add, Int.natCast_one, Int.natCast_zero, Int.cast_ofNat_Int, Nat.add_zero, Bool.false_eq_true, if_false, if_true]); (try exact JL_refl _)))
  · intro k hk
    obtain ⟨y, M, hy, c, j1, e⟩ := hRt k hk
    have l1 := (hI (k + 1) hk).2.2.len
    rw [e] at l1 ⊢
    (repeat (first | ((first | (refine And.intro ?_ ?_; focus exact PLA) | ((first | with_reducible apply callB_i | with_reducible apply callK_intro | with_reducible apply callQ_i); (focus (first | assumption | (with_reducible apply c <;> (first | assumption | rfl | (simp (disch := omega) only [go_sem]; first | done | rfl) | omega | decide | (simp; done))))); (try exact WP_au)) | refine WA_seq (WA_region ?_) | refine WA_region ?_ | refine WA_exit ?_); try simp (maxSteps := 1000000) (disch := first | omega | rfl | decide | (simp only [List.length_cons, List.length_nil, List.length_append, LV] <;> omega)) only [go_sem, Nat.reduceAdd, Int.reduceAdd, Int.reduceSub, Int.reduceMul, Bool.not_true, Bool.not_false, j1, look_set (blt j1), List.set_set, decide_eq_true (show 0 < 255 - k by omega)]) | refine WA_seq ?_ | refine WA_block ?_ | (refine WA_skip ?_; try simp only [go_sem]) | (refine WA_ret ?_; try simp only [go_sem]) | refine WA_ct rfl ?_ | refine WA_cf rfl ?_))
    (refine Drop_slots (by first | assumption | exact Nat.le_refl _) ?_; focus ((try simp only [JL_same, JL_J, JL_nil, Int.reduceAdd, Nat.sub_sub, Int.natCast_add, Int.natCast_one, Int.natCast_zero, Int.cast_ofNat_Int, Nat.add_zero, Bool.false_eq_true, if_false, if_true]); (try exact JL_refl _)))
  · (repeat (first | ((first | (refine And.intro ?_ ?_; focus exact PLA) | refine WA_seq (WA_region ?_) | refine WA_region ?_ | refine WA_exit ?_); try simp (maxSteps := 1000000) (disch := first | omega | rfl | decide | (simp only [List.length_cons, List.length_nil, List.length_append, LV] <;> omega)) only [go_sem, Nat.reduceAdd, Int.reduceAdd, Int.reduceSub, Int.reduceMul, Bool.not_true, Bool.not_false, f1, f2]) | refine WA_seq ?_ | refine WA_block ?_ | (refine WA_skip ?_; try simp only [go_sem]) | (refine WA_ret ?_; try simp only [go_sem]) | refine WA_ct rfl ?_ | refine WA_cf rfl ?_))
    refine ret_full (by first | exact .inr rfl | exact .inl rfl) (by simpa using hlen) ?_
    simp (maxSteps := 1000000) (disch := first | omega | rfl | decide | (simp only [List.length_cons, List.length_nil, List.length_append, LV] <;> omega)) only [go_sem, Nat.reduceAdd, Int.reduceAdd, Int.reduceSub, Int.reduceMul, Bool.not_true, Bool.not_false, look_set (blt f2)]
    try rfl

theorem pick_nat {cs : List Value} {n : Nat} {v : Int} (hcs : ∀ i, i < n → ∃ k : Nat, cs[i]? = some (.int .i64 k) ∧ k ≤ 1000000001) (h : ∃ i, i < n ∧ cs[i]? = some (.int .i64 v)) : ∃ k : Nat, v = k ∧ k ≤ 1000000001 := by
  obtain ⟨i, hi, e⟩ := h
  obtain ⟨k, e2, hk⟩ := hcs i hi
  rw [e2] at e
  cases e
  exact ⟨k, rfl, hk⟩
theorem l02Draw_aft {h : List Blk} {b : Nat} {cv : Value} (s : SrcAt h b cv) :
    ∃ (f : Nat → UInt8) (h' : List Blk), Aft h h' b cv ∧ AC Try.prog 123 [pt b 0] h (.agg (Bs 256 f).toArray) h' := by
  have hbl := s.lt
  have a0 := s.more [⟨Bs 256 zeroF, true⟩]
  obtain ⟨x, h1, hx, a1, c1⟩ := next_aft a0.src (N := 6) (by omega) (by omega)
  have hR := a1.keep (h.length) ⟨Bs 256 zeroF, true⟩ (by omega) (by simp)
  have A1 := a0.trans a1
  have n1 := A1.len
  by_cases h0 : x = 0
  · subst h0
    obtain ⟨n, h2, hn, a2, c2⟩ := drawFld_aft a1.src
    obtain ⟨g0, g1⟩ := fieldB_lt hn
    have n2 := a2.len
    have a3 := a2.src.more [⟨[.int .i64 0, .int .i64 1, .int .i64 4], true⟩]
    obtain ⟨y, h4, hy, a4, c4⟩ := next_aft a3.src (N := 256) (by omega) (by omega)
    have hL := a4.keep h2.length ⟨[.int .i64 0, .int .i64 1, .int .i64 4], true⟩ (by omega) (by simp)
    have hc := rotS_ac hL (UInt8.ofNat y)
    have hp : ∀ h, AC Try.prog 99 [.int .i64 n, .int .i64 254] h (.agg (Bs 256 (powF n 254)).toArray) h := fun h => powS_ac g0 g1 (e := 254) (by omega) h
    have A := ((A1.trans a2).trans a3).trans a4
    have hR4 := ((a2.trans a3).trans a4).keep _ _ (by omega) hR
    have hlen := A.len
    refine ⟨thenF (powF n 254) (rotF (UInt8.ofNat y)), h4.set h.length ⟨Bs 256 (thenF (powF n 254) (rotF (UInt8.ofNat y))), true⟩, A.set s (Nat.le_refl _) _, ?_⟩
    (refine AC_begin (fun _ _ => Try.call123 _ _) Try.func123 rfl Try.ntmps123 Try.results123 (fun hwf => ?_); simp only [List.length_cons, List.length_nil, Nat.reduceAdd, Nat.reduceSub, List.replicate, List.cons_append, List.nil_append])
    (repeat (first | ((first | (refine And.intro ?_ ?_; focus exact PLA) | ((first | with_reducible apply callB_i | with_reducible apply callK_intro | with_reducible apply callQ_i); (focus (first | assumption | ((first | with_reducible apply c1 | with_reducible apply c2 | with_reducible apply hp | with_reducible apply c4 | with_reducible apply hc | with_reducible apply thenS_ac) <;> (first | assumption | rfl | (simp (disch := omega) only [go_sem]; first | done | rfl) | omega | decide | (simp; done))))); (try exact WP_au)) | refine WA_seq (WA_region ?_) | refine WA_region ?_ | refine WA_exit ?_); try simp (maxSteps := 1000000) (disch := first | omega | rfl | decide | (simp only [List.length_cons, List.length_nil, List.length_append, LV] <;> omega)) only [go_sem, Nat.reduceAdd, Int.reduceAdd, Int.reduceSub, Int.reduceMul, Bool.not_true, Bool.not_false, beq_self_eq_true, hR4]) | refine WA_seq ?_ | refine WA_block ?_ | (refine WA_skip ?_; try simp only [go_sem]) | (refine WA_ret ?_; try simp only [go_sem]) | refine WA_ct rfl ?_ | refine WA_cf rfl ?_))
    refine ret_full (by first | exact .inr rfl | exact .inl rfl) (by simpa using hlen) ?_
    simp (maxSteps := 1000000) (disch := first | omega | rfl | decide | (simp only [List.length_cons, List.length_nil, List.length_append, LV] <;> omega)) only [go_sem, Nat.reduceAdd, Int.reduceAdd, Int.reduceSub, Int.reduceMul, Bool.not_true, Bool.not_false, look_set (blt hR4)]
    try rfl
  · have hx0 : (x == 0) = false := by simpa using h0
    by_cases h1x : x = 1
    · subst h1x
      obtain ⟨n, h2, hn, a2, c2⟩ := drawFld_aft a1.src
      obtain ⟨g0, g1⟩ := fieldB_lt hn
      obtain ⟨v, h3, hv, a3, c3⟩ := pickL_aft a2.src [.int .i64 1, .int .i64 2, .int .i64 7, .int .i64 11, .int .i64 13, .int .i64 127, .int .i64 254] (n := 7) rfl rfl (by omega) (by omega)
      obtain ⟨e, rfl, he⟩ := pick_nat (fun i hi => by
        match i, hi with
        | 0, _ => exact ⟨1, rfl, by omega⟩
        | 1, _ => exact ⟨2, rfl, by omega⟩
        | 2, _ => exact ⟨7, rfl, by omega⟩
        | 3, _ => exact ⟨11, rfl, by omega⟩
        | 4, _ => exact ⟨13, rfl, by omega⟩
        | 5, _ => exact ⟨127, rfl, by omega⟩
        | 6, _ => exact ⟨254, rfl, by omega⟩
        | n + 7, h => exact absurd h (by omega)) hv
      have A := (A1.trans a2).trans a3
      have hR3 := (a2.trans a3).keep _ _ (by omega) hR
      have hlen := A.len
      refine ⟨powF n e, h3.set h.length ⟨Bs 256 (powF n e), true⟩, A.set s (Nat.le_refl _) _, ?_⟩
      (refine AC_begin (fun _ _ => Try.call123 _ _) Try.func123 rfl Try.ntmps123 Try.results123 (fun hwf => ?_); simp only [List.length_cons, List.length_nil, Nat.reduceAdd, Nat.reduceSub, List.replicate, List.cons_append, List.nil_append])
      (repeat (first | ((first | (refine And.intro ?_ ?_; focus exact PLA) | ((first | with_reducible apply callB_i | with_reducible apply callK_intro | with_reducible apply callQ_i); (focus (first | assumption | ((first | with_reducible apply c1 | with_reducible apply c2 | with_reducible apply c3 | with_reducible apply powS_ac g0 g1 (e := e) (by omega)) <;> (first | assumption | rfl | (simp (disch := omega) only [go_sem]; first | done | rfl) | omega | decide | (simp; done))))); (try exact WP_au)) | refine WA_seq (WA_region ?_) | refine WA_region ?_ | refine WA_exit ?_); try simp (maxSteps := 1000000) (disch := first | omega | rfl | decide | (simp only [List.length_cons, List.length_nil, List.length_append, LV] <;> omega)) only [go_sem, Nat.reduceAdd, Int.reduceAdd, Int.reduceSub, Int.reduceMul, Bool.not_true, Bool.not_false, beq_self_eq_true, hx0, hR3]) | refine WA_seq ?_ | refine WA_block ?_ | (refine WA_skip ?_; try simp only [go_sem]) | (refine WA_ret ?_; try simp only [go_sem]) | refine WA_ct rfl ?_ | refine WA_cf rfl ?_))
      refine ret_full (by first | exact .inr rfl | exact .inl rfl) (by simpa using hlen) ?_
      simp (maxSteps := 1000000) (disch := first | omega | rfl | decide | (simp only [List.length_cons, List.length_nil, List.length_append, LV] <;> omega)) only [go_sem, Nat.reduceAdd, Int.reduceAdd, Int.reduceSub, Int.reduceMul, Bool.not_true, Bool.not_false, look_set (blt hR3)]
      try rfl
    · have hx1 : (x == 1) = false := by simpa using h1x
      by_cases h2x : x = 2
      · subst h2x
        have a2 := a1.src.more [⟨[.int .i64 0, .int .i64 2, .int .i64 5], true⟩]
        obtain ⟨y, h3, hy, a3, c3⟩ := next_aft a2.src (N := 256) (by omega) (by omega)
        have hL := a3.keep h1.length ⟨[.int .i64 0, .int .i64 2, .int .i64 5], true⟩ (by omega) (by simp)
        have hc := rot25_ac hL (UInt8.ofNat y)
        have A := (A1.trans a2).trans a3
        have hR3 := (a2.trans a3).keep _ _ (by omega) hR
        have hlen := A.len
        refine ⟨rotG (UInt8.ofNat y), h3.set h.length ⟨Bs 256 (rotG (UInt8.ofNat y)), true⟩, A.set s (Nat.le_refl _) _, ?_⟩
        (refine AC_begin (fun _ _ => Try.call123 _ _) Try.func123 rfl Try.ntmps123 Try.results123 (fun hwf => ?_); simp only [List.length_cons, List.length_nil, Nat.reduceAdd, Nat.reduceSub, List.replicate, List.cons_append, List.nil_append])
        (repeat (first | ((first | (refine And.intro ?_ ?_; focus exact PLA) | ((first | with_reducible apply callB_i | with_reducible apply callK_intro | with_reducible apply callQ_i); (focus (first | assumption | ((first | with_reducible apply c1 | with_reducible apply c3 | with_reducible apply hc) <;> (first | assumption | rfl | (simp (disch := omega) only [go_sem]; first | done | rfl) | omega | decide | (simp; done))))); (try exact WP_au)) | refine WA_seq (WA_region ?_) | refine WA_region ?_ | refine WA_exit ?_); try simp (maxSteps := 1000000) (disch := first | omega | rfl | decide | (simp only [List.length_cons, List.length_nil, List.length_append, LV] <;> omega)) only [go_sem, Nat.reduceAdd, Int.reduceAdd, Int.reduceSub, Int.reduceMul, Bool.not_true, Bool.not_false, beq_self_eq_true, hx0, hx1, hR3]) | refine WA_seq ?_ | refine WA_block ?_ | (refine WA_skip ?_; try simp only [go_sem]) | (refine WA_ret ?_; try simp only [go_sem]) | refine WA_ct rfl ?_ | refine WA_cf rfl ?_))
        refine ret_full (by first | exact .inr rfl | exact .inl rfl) (by simpa using hlen) ?_
        simp (maxSteps := 1000000) (disch := first | omega | rfl | decide | (simp only [List.length_cons, List.length_nil, List.length_append, LV] <;> omega)) only [go_sem, Nat.reduceAdd, Int.reduceAdd, Int.reduceSub, Int.reduceMul, Bool.not_true, Bool.not_false, look_set (blt hR3)]
        try rfl
      · have hx2 : (x == 2) = false := by simpa using h2x
        by_cases h3x : x = 3
        · subst h3x
          have a2 := a1.src.more [⟨Bs 256 (idF 256), true⟩]
          obtain ⟨y, h3, hy, a3, c3⟩ := next_aft a2.src (N := 256) (by omega) (by omega)
          obtain ⟨z, h4, hz, a4, c4⟩ := next_aft a3.src (N := 256) (by omega) (by omega)
          have hO := (a3.trans a4).keep h1.length ⟨Bs 256 (idF 256), true⟩ (by omega) (by simp)
          have A := ((A1.trans a2).trans a3).trans a4
          have hR4 := ((a2.trans a3).trans a4).keep _ _ (by omega) hR
          have hR5 := set_at (x := ⟨Bs 256 (upd (upd (idF 256) y (idF 256 z)) z (idF 256 y)), true⟩) hR4 (show h1.length ≠ h.length by have := blt hR; omega)
          have hlen := A.len
          have hb1 := blt hR
          refine ⟨upd (upd (idF 256) y (idF 256 z)) z (idF 256 y), (h4.set h1.length ⟨Bs 256 (upd (upd (idF 256) y (idF 256 z)) z (idF 256 y)), true⟩).set h.length ⟨Bs 256 (upd (upd (idF 256) y (idF 256 z)) z (idF 256 y)), true⟩, (A.set s (by omega) _).set s (Nat.le_refl _) _, ?_⟩
          (refine AC_begin (fun _ _ => Try.call123 _ _) Try.func123 rfl Try.ntmps123 Try.results123 (fun hwf => ?_); simp only [List.length_cons, List.length_nil, Nat.reduceAdd, Nat.reduceSub, List.replicate, List.cons_append, List.nil_append])
          (repeat (first | ((first | (refine And.intro ?_ ?_; focus exact PLA) | ((first | with_reducible apply callB_i | with_reducible apply callK_intro | with_reducible apply callQ_i); (focus (first | assumption | ((first | with_reducible apply c1 | with_reducible apply sameS_ac | with_reducible apply c3 | with_reducible apply c4) <;> (first | assumption | rfl | (simp (disch := omega) only [go_sem]; first | done | rfl) | omega | decide | (simp; done))))); (try exact WP_au)) | refine WA_seq (WA_region ?_) | refine WA_region ?_ | refine WA_exit ?_); try simp (maxSteps := 1000000) (disch := first | omega | rfl | decide | (simp only [List.length_cons, List.length_nil, List.length_append, LV] <;> omega)) only [go_sem, Nat.reduceAdd, Int.reduceAdd, Int.reduceSub, Int.reduceMul, Bool.not_true, Bool.not_false, beq_self_eq_true, hx0, hx1, hx2, hO, look_set (blt hO), List.set_set, hR5]) | refine WA_seq ?_ | refine WA_block ?_ | (refine WA_skip ?_; try simp only [go_sem]) | (refine WA_ret ?_; try simp only [go_sem]) | refine WA_ct rfl ?_ | refine WA_cf rfl ?_))
          refine ret_full (by first | exact .inr rfl | exact .inl rfl) (by simpa using hlen) ?_
          simp (maxSteps := 1000000) (disch := first | omega | rfl | decide | (simp only [List.length_cons, List.length_nil, List.length_append, LV] <;> omega)) only [go_sem, Nat.reduceAdd, Int.reduceAdd, Int.reduceSub, Int.reduceMul, Bool.not_true, Bool.not_false, look_set (blt hR5)]
          try rfl
        · have hx3 : (x == 3) = false := by simpa using h3x
          obtain ⟨f, h2, a2, c2⟩ := shuffle_aft a1.src
          have A := A1.trans a2
          have hR2 := a2.keep _ _ (by omega) hR
          have hlen := A.len
          refine ⟨f, h2.set h.length ⟨Bs 256 f, true⟩, A.set s (Nat.le_refl _) _, ?_⟩
          (refine AC_begin (fun _ _ => Try.call123 _ _) Try.func123 rfl Try.ntmps123 Try.results123 (fun hwf => ?_); simp only [List.length_cons, List.length_nil, Nat.reduceAdd, Nat.reduceSub, List.replicate, List.cons_append, List.nil_append])
          (repeat (first | ((first | (refine And.intro ?_ ?_; focus exact PLA) | ((first | with_reducible apply callB_i | with_reducible apply callK_intro | with_reducible apply callQ_i); (focus (first | assumption | ((first | with_reducible apply c1 | with_reducible apply c2) <;> (first | assumption | rfl | (simp (disch := omega) only [go_sem]; first | done | rfl) | omega | decide | (simp; done))))); (try exact WP_au)) | refine WA_seq (WA_region ?_) | refine WA_region ?_ | refine WA_exit ?_); try simp (maxSteps := 1000000) (disch := first | omega | rfl | decide | (simp only [List.length_cons, List.length_nil, List.length_append, LV] <;> omega)) only [go_sem, Nat.reduceAdd, Int.reduceAdd, Int.reduceSub, Int.reduceMul, Bool.not_true, Bool.not_false, beq_self_eq_true, hx0, hx1, hx2, hx3, hR2]) | refine WA_seq ?_ | refine WA_block ?_ | (refine WA_skip ?_; try simp only [go_sem]) | (refine WA_ret ?_; try simp only [go_sem]) | refine WA_ct rfl ?_ | refine WA_cf rfl ?_))
          refine ret_full (by first | exact .inr rfl | exact .inl rfl) (by simpa using hlen) ?_
          simp (maxSteps := 1000000) (disch := first | omega | rfl | decide | (simp only [List.length_cons, List.length_nil, List.length_append, LV] <;> omega)) only [go_sem, Nat.reduceAdd, Int.reduceAdd, Int.reduceSub, Int.reduceMul, Bool.not_true, Bool.not_false, look_set (blt hR2)]
          try rfl

end Go.Proofs.Ytcfpninklbnifaa
/- CauchyMatrix. -/
namespace Go.Proofs.Ytcfpninklbnifaa
set_option linter.unusedSimpArgs false
set_option linter.unusedVariables false
set_option maxRecDepth 20000
set_option maxHeartbeats 1000000
open Go.Abs

theorem indexByte_neg : ∀ (l : List UInt8) (x : UInt8), decide (0 ≤ Lib.indexByte l x) = l.any fun y => x == y
  | [], _ => rfl
  | y :: l, x => by
    have ih := indexByte_neg l x
    rw [List.any_cons, ← ih, Lib.indexByte]
    by_cases h : y = x
    · subst h; simp
    · have h1 : (y == x) = false := by simpa using h
      have h2 : (x == y) = false := by simpa using fun e => h e.symm
      have h3 := Lib.indexByte_ge l x
      rw [h1, h2, Bool.false_or, if_neg (by simp)]
      by_cases h4 : Lib.indexByte l x = -1
      · rw [h4]; rfl
      · rw [if_neg (by simpa using h4), decide_eq_decide]; omega
theorem indexByte_twice (f : Nat → UInt8) (i : Nat) : decide (0 ≤ Lib.indexByte ((List.range i).map fun j => f (0 + j)) (f i)) = twiceAt f i i := by
  rw [indexByte_neg, List.any_map]; unfold twiceAt; congr 1; funext j; simp

theorem areDifferent_ac {h : List Blk} {b n : Nat} {f : Nat → UInt8} {r : Bool} (hb : h[b]? = some ⟨Bs n f, r⟩) (hn : n ≤ 140737488355328) : AC Try.prog 87 [sl b 0 n 1] h (.bool (!twiceP f n)) h := by
  (refine AC_begin (fun _ _ => Try.call87 _ _) Try.func87 rfl Try.ntmps87 Try.results87 (fun hwf => ?_); simp only [List.length_cons, List.length_nil, Nat.reduceAdd, Nat.reduceSub, List.replicate, List.cons_append, List.nil_append])
  (repeat (first | ((first | (refine And.intro ?_ ?_; focus exact PLA) | refine WA_seq (WA_region ?_) | refine WA_region ?_ | refine WA_exit ?_); try simp (maxSteps := 1000000) (disch := first | omega | rfl | decide | (simp only [List.length_cons, List.length_nil, List.length_append, LV] <;> omega)) only [go_sem, Nat.reduceAdd, Int.reduceAdd, Int.reduceSub, Int.reduceMul, Bool.not_true, Bool.not_false]) | refine WA_seq ?_ | refine WA_block ?_ | (refine WA_skip ?_; try simp only [go_sem]) | (refine WA_ret ?_; try simp only [go_sem]) | refine WA_ct rfl ?_ | refine WA_cf rfl ?_))
  refine WA_forHJ (fun k => twiceP f k = false) (fun k => [(2, J), (3, J), (4, J), (7, .int .i64 k), (8, J), (9, J), (10, J), (11, J), (12, J), (13, J), (14, J), (15, J), (16, J), (17, J), (18, J)]) (fun k => h) (n) ?_ ?_ ?_ ?_ <;> (try simp only [patT_cons, patT_nil, patL_cons, patL_nil, list_set_zero, list_set_succ, blk_set_zero, blk_set_succ])
  · rfl
  · (refine Drop_slots (by first | exact Nat.le_refl _ | simp) ?_; focus ((try simp only [JL_same, JL_J, JL_nil, Int.reduceAdd, Nat.sub_sub, Int.natCast_add, Int.natCast_one, Int.natCast_zero, Int.cast_ofNat_Int, Nat.add_zero, Bool.false_eq_true, if_false, if_true]); (try exact JL_refl _)))
  · intro i hi hJ
    have ht := indexByte_twice f i
    have hib := indexByte_ac hb (o := 0) (n := i) (by omega) (f i)
    simp only [Nat.zero_add] at ht hib
    cases he : twiceAt f i i <;> rw [he] at ht
    · (repeat (first | ((first | (refine And.intro ?_ ?_; focus exact PLA) | ((first | with_reducible apply callB_i | with_reducible apply callK_intro | with_reducible apply callQ_i); (focus (first | assumption | (with_reducible apply hib <;> (first | assumption | rfl | (simp (disch := omega) only [go_sem]; first | done | rfl) | omega | decide | (simp; done))))); (try exact WP_au)) | refine WA_seq (WA_region ?_) | refine WA_region ?_ | refine WA_exit ?_); try simp (maxSteps := 1000000) (disch := first | omega | rfl | decide | (simp only [List.length_cons, List.length_nil, List.length_append, LV] <;> omega)) only [go_sem, Nat.reduceAdd, Int.reduceAdd, Int.reduceSub, Int.reduceMul, Bool.not_true, Bool.not_false, hb, ht]) | refine WA_seq ?_ | refine WA_block ?_ | (refine WA_skip ?_; try simp only [go_sem]) | (refine WA_ret ?_; try simp only [go_sem]) | refine WA_ct rfl ?_ | refine WA_cf rfl ?_))
      refine ⟨twiceP_s hJ he, ?_⟩
      (refine Drop_slots (by first | exact Nat.le_refl _ | simp) ?_; focus ((try simp only [JL_same, JL_J, JL_nil, Int.reduceAdd, Nat.sub_sub, Int.natCast_add, Int.natCast_one, Int.natCast_zero, Int.cast_ofNat_Int, Nat.add_zero, Bool.false_eq_true, if_false, if_true]); (try exact JL_refl _)))
    · (repeat (first | ((first | (refine And.intro ?_ ?_; focus exact PLA) | ((first | with_reducible apply callB_i | with_reducible apply callK_intro | with_reducible apply callQ_i); (focus (first | assumption | (with_reducible apply hib <;> (first | assumption | rfl | (simp (disch := omega) only [go_sem]; first | done | rfl) | omega | decide | (simp; done))))); (try exact WP_au)) | refine WA_seq (WA_region ?_) | refine WA_region ?_ | refine WA_exit ?_); try simp (maxSteps := 1000000) (disch := first | omega | rfl | decide | (simp only [List.length_cons, List.length_nil, List.length_append, LV] <;> omega)) only [go_sem, Nat.reduceAdd, Int.reduceAdd, Int.reduceSub, Int.reduceMul, Bool.not_true, Bool.not_false, hb, ht]) | refine WA_seq ?_ | refine WA_block ?_ | (refine WA_skip ?_; try simp only [go_sem]) | (refine WA_ret ?_; try simp only [go_sem]) | refine WA_ct rfl ?_ | refine WA_cf rfl ?_))
      ((first | refine ret_nA ?_ | refine ret_sA ?_ | refine ret_fA ?_); simp (maxSteps := 1000000) (disch := first | omega | rfl | decide | (simp only [List.length_cons, List.length_nil, List.length_append, LV] <;> omega)) only [go_sem, Nat.reduceAdd, Int.reduceAdd, Int.reduceSub, Int.reduceMul, Bool.not_true, Bool.not_false, twiceP_t hi he, Bool.not_true]; try rfl)
  · intro hJ
    (repeat (first | ((first | (refine And.intro ?_ ?_; focus exact PLA) | refine WA_seq (WA_region ?_) | refine WA_region ?_ | refine WA_exit ?_); try simp (maxSteps := 1000000) (disch := first | omega | rfl | decide | (simp only [List.length_cons, List.length_nil, List.length_append, LV] <;> omega)) only [go_sem, Nat.reduceAdd, Int.reduceAdd, Int.reduceSub, Int.reduceMul, Bool.not_true, Bool.not_false]) | refine WA_seq ?_ | refine WA_block ?_ | (refine WA_skip ?_; try simp only [go_sem]) | (refine WA_ret ?_; try simp only [go_sem]) | refine WA_ct rfl ?_ | refine WA_cf rfl ?_))
    ((first | refine ret_nA ?_ | refine ret_sA ?_ | refine ret_fA ?_); simp (maxSteps := 1000000) (disch := first | omega | rfl | decide | (simp only [List.length_cons, List.length_nil, List.length_append, LV] <;> omega)) only [go_sem, Nat.reduceAdd, Int.reduceAdd, Int.reduceSub, Int.reduceMul, Bool.not_true, Bool.not_false, hJ, Bool.not_false]; try rfl)

end Go.Proofs.Ytcfpninklbnifaa
