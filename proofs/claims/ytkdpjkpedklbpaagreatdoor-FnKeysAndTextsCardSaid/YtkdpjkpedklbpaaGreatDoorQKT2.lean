/- A part of the proof of FnKeysAndTexts. -/
import Derived.Test.YtkdpjkpedklbpaaGreatDoorQKTH
import Derived.Test.YtkdpjkpedklbpaaGreatDoorQKT0
import Derived.Test.YtkdpjkpedklbpaaGreatDoorQKT1
/- Draws: numbers that follow from a code. -/
namespace Go.Proofs.YtkdpjkpedklbpaaGreatDoor
set_option linter.unusedSimpArgs false
set_option linter.unusedVariables false
set_option maxRecDepth 20000
set_option maxHeartbeats 1000000
open Go.Abs

/-- The code of a source: nil, or bytes in a block of their own. -/
inductive Cd (h : List Blk) (b : Nat) : Value → Nat → (Nat → UInt8) → Prop
  | nil (f : Nat → UInt8) : Cd h b (.slice none 0 0) 0 f
  | sl (f : Nat → UInt8) {bc n : Nat} {rc : Bool} (hb : h[bc]? = some ⟨Bs n f, rc⟩) (hne : bc ≠ b) : Cd h b (sl bc 0 n 1) n f
theorem Cd.set {h : List Blk} {b n : Nat} {cv : Value} {f : Nat → UInt8} (c : Cd h b cv n f) (x : Blk) : Cd (h.set b x) b cv n f := by
  cases c with
  | nil => exact .nil f
  | sl _ hb hne => exact .sl f (set_at hb hne.symm) hne
theorem Cd.app {h : List Blk} {b n : Nat} {cv : Value} {f : Nat → UInt8} (c : Cd h b cv n f) (L : List Blk) : Cd (h ++ L) b cv n f := by
  cases c with
  | nil => exact .nil f
  | sl _ hb hne => exact .sl f (look_old hb L) hne
/-- A source's block. -/
def Src (h : List Blk) (b : Nat) (cv : Value) (k : Blk) : Prop := ∃ (at' : Nat) (hs : Int) (n : Nat) (f : Nat → UInt8), k = ⟨Sr cv at' hs, true⟩ ∧ at' ≤ n ∧ n ≤ 4096 ∧ Cd h b cv n f
theorem Src.set {h : List Blk} {b : Nat} {cv : Value} {k : Blk} (s : Src h b cv k) (x : Blk) : Src (h.set b x) b cv k := by
  obtain ⟨a, hs, n, f, e, h1, h2, c⟩ := s
  exact ⟨a, hs, n, f, e, h1, h2, c.set x⟩
theorem Src.app {h : List Blk} {b : Nat} {cv : Value} {k : Blk} (s : Src h b cv k) (L : List Blk) : Src (h ++ L) b cv k := by
  obtain ⟨a, hs, n, f, e, h1, h2, c⟩ := s
  exact ⟨a, hs, n, f, e, h1, h2, c.app L⟩
theorem set_app {h : List Blk} {b : Nat} (hb : b < h.length) (x : Blk) (L : List Blk) : (h ++ L).set b x = h.set b x ++ L := List.set_append_left _ _ hb

def nxH (hs : Int) : Int := IntKind.u64.wrap (IntKind.u64.wrap (hs * 6364136223846793005) + 1442695040888963407)
theorem and24 (x : Int) : ∃ q : Nat, q < 16777216 ∧ bits .and .u64 x 16777215 = ((q : Nat) : Int) := by
  refine ⟨((BitVec.ofInt 64 x) &&& (BitVec.ofInt 64 16777215)).toNat, ?_, ?_⟩
  · rw [BitVec.toNat_and]
    have : (BitVec.ofInt 64 16777215).toNat = 16777215 := by decide
    rw [this]
    exact Nat.lt_of_le_of_lt Nat.and_le_right (by omega)
  · show IntKind.u64.wrap ((((BitVec.ofInt 64 x) &&& (BitVec.ofInt 64 16777215)).toNat : Nat) : Int) = _
    have h1 : ((BitVec.ofInt 64 x) &&& (BitVec.ofInt 64 16777215)).toNat < 2 ^ 64 := BitVec.isLt _
    exact wrap_u64 (by omega) (by omega)
theorem next_ex {h : List Blk} {b : Nat} {cv : Value} {k : Blk} (hb : h[b]? = some k) (hk : Src h b cv k) {N : Nat} (hN : 0 < N) (hN2 : N ≤ 1125899906842624) :
    ∃ (x : Nat) (k' : Blk), x < N ∧ Src h b cv k' ∧ AC Tryz.prog 33 [pt b 0, .int .i64 N] h (.int .i64 x) (h.set b k') := by
  obtain ⟨a, hs, n, f, rfl, h1, h2, c⟩ := hk
  have hbl := blt hb
  obtain ⟨q, hq, e⟩ := and24 ((nxH hs).fdiv (2 ^ (min 33 64)))
  cases c with
  | nil =>
    refine ⟨q % N, ⟨Sr (.slice none 0 0) a (nxH hs), true⟩, Nat.mod_lt _ hN, ⟨a, _, 0, f, rfl, h1, h2, .nil f⟩, ?_⟩
    have hz : decide (N < 1) = false := decide_eq_false (by omega)
    have ha : decide (a < 0) = false := decide_eq_false (by omega)
    (refine AC_begin (fun _ _ => Tryz.call33 _ _) Tryz.func33 rfl Tryz.ntmps33 Tryz.results33 (fun hwf => ?_); simp only [List.length_cons, List.length_nil, Nat.reduceAdd, Nat.reduceSub, List.replicate, List.cons_append, List.nil_append])
    (repeat (first | ((first | (refine And.intro ?_ ?_; focus exact PLA) | refine WA_seq (WA_region ?_) | refine WA_region ?_ | refine WA_exit ?_); try simp (maxSteps := 1000000) (disch := first | omega | rfl | decide | (simp only [List.length_cons, List.length_nil, List.length_append, LV] <;> omega)) only [go_sem, Nat.reduceAdd, Int.reduceAdd, Int.reduceSub, Int.reduceMul, Bool.not_true, Bool.not_false, hb, look_set hbl, List.set_set, hz, ha, show IntKind.u64.wrap (IntKind.u64.wrap (hs * 6364136223846793005) + 1442695040888963407) = nxH hs from rfl, e]) | (refine WA_seq (WA_draw (id := 5) mixedOk (by kernel_rfl) ?_); simp (maxSteps := 1000000) (disch := first | omega | rfl | decide | (simp only [List.length_cons, List.length_nil, List.length_append, LV] <;> omega)) only [go_sem, Nat.reduceAdd, Int.reduceAdd, Int.reduceSub, Int.reduceMul, Bool.not_true, Bool.not_false, hb, look_set hbl, List.set_set, hz, ha, show IntKind.u64.wrap (IntKind.u64.wrap (hs * 6364136223846793005) + 1442695040888963407) = nxH hs from rfl, e]) | (refine WA_draw (id := 5) mixedOk (by kernel_rfl) ?_; simp (maxSteps := 1000000) (disch := first | omega | rfl | decide | (simp only [List.length_cons, List.length_nil, List.length_append, LV] <;> omega)) only [go_sem, Nat.reduceAdd, Int.reduceAdd, Int.reduceSub, Int.reduceMul, Bool.not_true, Bool.not_false, hb, look_set hbl, List.set_set, hz, ha, show IntKind.u64.wrap (IntKind.u64.wrap (hs * 6364136223846793005) + 1442695040888963407) = nxH hs from rfl, e]) | (refine WA_seq (WA_draw (id := 6) mixedOk (by kernel_rfl) ?_); simp (maxSteps := 1000000) (disch := first | omega | rfl | decide | (simp only [List.length_cons, List.length_nil, List.length_append, LV] <;> omega)) only [go_sem, Nat.reduceAdd, Int.reduceAdd, Int.reduceSub, Int.reduceMul, Bool.not_true, Bool.not_false, hb, look_set hbl, List.set_set, hz, ha, show IntKind.u64.wrap (IntKind.u64.wrap (hs * 6364136223846793005) + 1442695040888963407) = nxH hs from rfl, e]) | (refine WA_draw (id := 6) mixedOk (by kernel_rfl) ?_; simp (maxSteps := 1000000) (disch := first | omega | rfl | decide | (simp only [List.length_cons, List.length_nil, List.length_append, LV] <;> omega)) only [go_sem, Nat.reduceAdd, Int.reduceAdd, Int.reduceSub, Int.reduceMul, Bool.not_true, Bool.not_false, hb, look_set hbl, List.set_set, hz, ha, show IntKind.u64.wrap (IntKind.u64.wrap (hs * 6364136223846793005) + 1442695040888963407) = nxH hs from rfl, e]) | refine WA_seq ?_ | refine WA_block ?_ | (refine WA_skip ?_; try simp only [go_sem]) | (refine WA_ret ?_; try simp only [go_sem]) | refine WA_ct rfl ?_ | refine WA_cf rfl ?_))
    (exact sR0)
  | sl _ hc hne =>
    have hc2 := fun (x : Blk) => set_at (x := x) hc hne.symm
    have hz : decide (N < 1) = false := decide_eq_false (by omega)
    by_cases ha : a < n
    · have hf := u8_lt (f a)
      refine ⟨(q + (f a).toNat) % N, ⟨Sr _ ((a + 1 : Nat) : Int) (nxH hs), true⟩, Nat.mod_lt _ hN, ⟨a + 1, _, n, f, rfl, by omega, h2, .sl f hc hne⟩, ?_⟩
      (refine AC_begin (fun _ _ => Tryz.call33 _ _) Tryz.func33 rfl Tryz.ntmps33 Tryz.results33 (fun hwf => ?_); simp only [List.length_cons, List.length_nil, Nat.reduceAdd, Nat.reduceSub, List.replicate, List.cons_append, List.nil_append])
      (repeat (first | ((first | (refine And.intro ?_ ?_; focus exact PLA) | refine WA_seq (WA_region ?_) | refine WA_region ?_ | refine WA_exit ?_); try simp (maxSteps := 1000000) (disch := first | omega | rfl | decide | (simp only [List.length_cons, List.length_nil, List.length_append, LV] <;> omega)) only [go_sem, Nat.reduceAdd, Int.reduceAdd, Int.reduceSub, Int.reduceMul, Bool.not_true, Bool.not_false, hb, look_set hbl, List.set_set, hc2, hz, decide_eq_true ha, show IntKind.u64.wrap (IntKind.u64.wrap (hs * 6364136223846793005) + 1442695040888963407) = nxH hs from rfl, e]) | (refine WA_seq (WA_draw (id := 5) mixedOk (by kernel_rfl) ?_); simp (maxSteps := 1000000) (disch := first | omega | rfl | decide | (simp only [List.length_cons, List.length_nil, List.length_append, LV] <;> omega)) only [go_sem, Nat.reduceAdd, Int.reduceAdd, Int.reduceSub, Int.reduceMul, Bool.not_true, Bool.not_false, hb, look_set hbl, List.set_set, hc2, hz, decide_eq_true ha, show IntKind.u64.wrap (IntKind.u64.wrap (hs * 6364136223846793005) + 1442695040888963407) = nxH hs from rfl, e]) | (refine WA_draw (id := 5) mixedOk (by kernel_rfl) ?_; simp (maxSteps := 1000000) (disch := first | omega | rfl | decide | (simp only [List.length_cons, List.length_nil, List.length_append, LV] <;> omega)) only [go_sem, Nat.reduceAdd, Int.reduceAdd, Int.reduceSub, Int.reduceMul, Bool.not_true, Bool.not_false, hb, look_set hbl, List.set_set, hc2, hz, decide_eq_true ha, show IntKind.u64.wrap (IntKind.u64.wrap (hs * 6364136223846793005) + 1442695040888963407) = nxH hs from rfl, e]) | (refine WA_seq (WA_draw (id := 6) mixedOk (by kernel_rfl) ?_); simp (maxSteps := 1000000) (disch := first | omega | rfl | decide | (simp only [List.length_cons, List.length_nil, List.length_append, LV] <;> omega)) only [go_sem, Nat.reduceAdd, Int.reduceAdd, Int.reduceSub, Int.reduceMul, Bool.not_true, Bool.not_false, hb, look_set hbl, List.set_set, hc2, hz, decide_eq_true ha, show IntKind.u64.wrap (IntKind.u64.wrap (hs * 6364136223846793005) + 1442695040888963407) = nxH hs from rfl, e]) | (refine WA_draw (id := 6) mixedOk (by kernel_rfl) ?_; simp (maxSteps := 1000000) (disch := first | omega | rfl | decide | (simp only [List.length_cons, List.length_nil, List.length_append, LV] <;> omega)) only [go_sem, Nat.reduceAdd, Int.reduceAdd, Int.reduceSub, Int.reduceMul, Bool.not_true, Bool.not_false, hb, look_set hbl, List.set_set, hc2, hz, decide_eq_true ha, show IntKind.u64.wrap (IntKind.u64.wrap (hs * 6364136223846793005) + 1442695040888963407) = nxH hs from rfl, e]) | refine WA_seq ?_ | refine WA_block ?_ | (refine WA_skip ?_; try simp only [go_sem]) | (refine WA_ret ?_; try simp only [go_sem]) | refine WA_ct rfl ?_ | refine WA_cf rfl ?_))
      (exact sR0)
    · refine ⟨q % N, ⟨Sr _ a (nxH hs), true⟩, Nat.mod_lt _ hN, ⟨a, _, n, f, rfl, h1, h2, .sl f hc hne⟩, ?_⟩
      (refine AC_begin (fun _ _ => Tryz.call33 _ _) Tryz.func33 rfl Tryz.ntmps33 Tryz.results33 (fun hwf => ?_); simp only [List.length_cons, List.length_nil, Nat.reduceAdd, Nat.reduceSub, List.replicate, List.cons_append, List.nil_append])
      (repeat (first | ((first | (refine And.intro ?_ ?_; focus exact PLA) | refine WA_seq (WA_region ?_) | refine WA_region ?_ | refine WA_exit ?_); try simp (maxSteps := 1000000) (disch := first | omega | rfl | decide | (simp only [List.length_cons, List.length_nil, List.length_append, LV] <;> omega)) only [go_sem, Nat.reduceAdd, Int.reduceAdd, Int.reduceSub, Int.reduceMul, Bool.not_true, Bool.not_false, hb, look_set hbl, List.set_set, hz, decide_eq_false ha, show IntKind.u64.wrap (IntKind.u64.wrap (hs * 6364136223846793005) + 1442695040888963407) = nxH hs from rfl, e]) | (refine WA_seq (WA_draw (id := 5) mixedOk (by kernel_rfl) ?_); simp (maxSteps := 1000000) (disch := first | omega | rfl | decide | (simp only [List.length_cons, List.length_nil, List.length_append, LV] <;> omega)) only [go_sem, Nat.reduceAdd, Int.reduceAdd, Int.reduceSub, Int.reduceMul, Bool.not_true, Bool.not_false, hb, look_set hbl, List.set_set, hz, decide_eq_false ha, show IntKind.u64.wrap (IntKind.u64.wrap (hs * 6364136223846793005) + 1442695040888963407) = nxH hs from rfl, e]) | (refine WA_draw (id := 5) mixedOk (by kernel_rfl) ?_; simp (maxSteps := 1000000) (disch := first | omega | rfl | decide | (simp only [List.length_cons, List.length_nil, List.length_append, LV] <;> omega)) only [go_sem, Nat.reduceAdd, Int.reduceAdd, Int.reduceSub, Int.reduceMul, Bool.not_true, Bool.not_false, hb, look_set hbl, List.set_set, hz, decide_eq_false ha, show IntKind.u64.wrap (IntKind.u64.wrap (hs * 6364136223846793005) + 1442695040888963407) = nxH hs from rfl, e]) | (refine WA_seq (WA_draw (id := 6) mixedOk (by kernel_rfl) ?_); simp (maxSteps := 1000000) (disch := first | omega | rfl | decide | (simp only [List.length_cons, List.length_nil, List.length_append, LV] <;> omega)) only [go_sem, Nat.reduceAdd, Int.reduceAdd, Int.reduceSub, Int.reduceMul, Bool.not_true, Bool.not_false, hb, look_set hbl, List.set_set, hz, decide_eq_false ha, show IntKind.u64.wrap (IntKind.u64.wrap (hs * 6364136223846793005) + 1442695040888963407) = nxH hs from rfl, e]) | (refine WA_draw (id := 6) mixedOk (by kernel_rfl) ?_; simp (maxSteps := 1000000) (disch := first | omega | rfl | decide | (simp only [List.length_cons, List.length_nil, List.length_append, LV] <;> omega)) only [go_sem, Nat.reduceAdd, Int.reduceAdd, Int.reduceSub, Int.reduceMul, Bool.not_true, Bool.not_false, hb, look_set hbl, List.set_set, hz, decide_eq_false ha, show IntKind.u64.wrap (IntKind.u64.wrap (hs * 6364136223846793005) + 1442695040888963407) = nxH hs from rfl, e]) | refine WA_seq ?_ | refine WA_block ?_ | (refine WA_skip ?_; try simp only [go_sem]) | (refine WA_ret ?_; try simp only [go_sem]) | refine WA_ct rfl ?_ | refine WA_cf rfl ?_))
      (exact sR0)

end Go.Proofs.YtkdpjkpedklbpaaGreatDoor
/- Draws of fields, bytes and numbers. -/
namespace Go.Proofs.YtkdpjkpedklbpaaGreatDoor
set_option linter.unusedSimpArgs false
set_option linter.unusedVariables false
set_option maxRecDepth 20000
set_option maxHeartbeats 1000000
open Go.Abs

def SrcAt (h : List Blk) (b : Nat) (cv : Value) : Prop := ∃ k, h[b]? = some k ∧ Src h b cv k
/-- What a draw leaves of memory. -/
structure Aft (h h' : List Blk) (b : Nat) (cv : Value) : Prop where
  src : SrcAt h' b cv
  keep : ∀ (i : Nat) (x : Blk), i ≠ b → h[i]? = some x → h'[i]? = some x
  app : ∀ h0 : List Blk, h0.length ≤ b → (∃ L, h = h0 ++ L) → ∃ L, h' = h0 ++ L
  len : h.length ≤ h'.length
theorem SrcAt.lt {h : List Blk} {b : Nat} {cv : Value} (s : SrcAt h b cv) : b < h.length := by obtain ⟨k, hb, _⟩ := s; exact blt hb
theorem SrcAt.more {h : List Blk} {b : Nat} {cv : Value} (s : SrcAt h b cv) (L : List Blk) : Aft h (h ++ L) b cv := by
  obtain ⟨k, hb, hk⟩ := s
  exact ⟨⟨k, look_old hb L, hk.app L⟩, fun _ _ _ hx => look_old hx L, fun h0 _ ⟨A, e⟩ => ⟨A ++ L, by rw [e, List.append_assoc]⟩, by simp⟩
theorem Aft.trans {h h' h'' : List Blk} {b : Nat} {cv : Value} (x : Aft h h' b cv) (y : Aft h' h'' b cv) : Aft h h'' b cv :=
  ⟨y.src, fun i k hi hx => y.keep i k hi (x.keep i k hi hx), fun h0 hl e => y.app h0 hl (x.app h0 hl e), Nat.le_trans x.len y.len⟩
theorem app_set' {h0 L : List Blk} {i : Nat} (hi : h0.length ≤ i) (x : Blk) : ∃ L', (h0 ++ L).set i x = h0 ++ L' := ⟨L.set (i - h0.length) x, List.set_append_right _ _ hi⟩
theorem aft_set {h : List Blk} {b : Nat} {cv : Value} {k : Blk} (hl : b < h.length) (hk : Src h b cv k) : Aft h (h.set b k) b cv :=
  ⟨⟨k, look_set hl, hk.set k⟩, fun i x hi hx => set_at hx hi.symm, fun h0 hb ⟨L, e⟩ => by subst e; exact app_set' hb k, by simp⟩
def isI : Value → Bool
  | .int .i64 _ => true
  | _ => false
theorem ints_at : ∀ {cs : List Value} {n : Nat}, cs.all isI = true → n ≤ cs.length → ∀ i, i < n → ∃ v, cs[i]? = some (.int .i64 v)
  | [], n, _, h, i, hi => absurd h (by simp; omega)
  | c :: cs, n, h, hl, i, hi => by
    rw [List.all_cons, Bool.and_eq_true] at h
    cases i with
    | zero =>
      cases c with
      | int k v => cases k <;> first | exact ⟨v, rfl⟩ | exact absurd h.1 (by simp [isI])
      | _ => exact absurd h.1 (by simp [isI])
    | succ i => exact ints_at (cs := cs) (n := n - 1) h.2 (by simp at hl; omega) i (by omega)
theorem next_aft {h : List Blk} {b : Nat} {cv : Value} (s : SrcAt h b cv) {N : Nat} (hN : 0 < N) (hN2 : N ≤ 1125899906842624) :
    ∃ (x : Nat) (h' : List Blk), x < N ∧ Aft h h' b cv ∧ AC Tryz.prog 33 [pt b 0, .int .i64 N] h (.int .i64 x) h' := by
  obtain ⟨k, hb, hk⟩ := s
  obtain ⟨x, k', hx, hk', hc⟩ := next_ex hb hk hN hN2
  exact ⟨x, _, hx, aft_set (blt hb) hk', hc⟩

theorem pick_aft {h : List Blk} {b : Nat} {cv : Value} (s : SrcAt h b cv) {bl n : Nat} {cs : List Value} {r : Bool} (hl : h[bl]? = some ⟨cs, r⟩) (hne : bl ≠ b) (hn : 0 < n) (hn2 : n ≤ 1000) (hcs : ∀ i, i < n → ∃ v, cs[i]? = some (.int .i64 v)) :
    ∃ (v : Int) (h' : List Blk), (∃ i, i < n ∧ cs[i]? = some (.int .i64 v)) ∧ Aft h h' b cv ∧ AC Tryz.prog 36 [pt b 0, sl bl 0 n 1] h (.int .i64 v) h' := by
  obtain ⟨x, h1, hx, a1, c1⟩ := next_aft s hn (by omega)
  obtain ⟨v, hv⟩ := hcs x hx
  have hl1 := a1.keep _ _ hne hl
  refine ⟨v, h1, ⟨x, hx, hv⟩, a1, ?_⟩
  have hlen := a1.len
  (refine AC_begin (fun _ _ => Tryz.call36 _ _) Tryz.func36 rfl Tryz.ntmps36 Tryz.results36 (fun hwf => ?_); simp only [List.length_cons, List.length_nil, Nat.reduceAdd, Nat.reduceSub, List.replicate, List.cons_append, List.nil_append])
  (refine sW (And.intro @hl1 @hv) @c1 ?_)
  refine ret_full (by first | exact .inr rfl | exact .inl rfl) hlen ?_
  simp (maxSteps := 1000000) (disch := first | omega | rfl | decide | (simp only [List.length_cons, List.length_nil, List.length_append, LV] <;> omega)) only [go_sem, Nat.reduceAdd, Int.reduceAdd, Int.reduceSub, Int.reduceMul, Bool.not_true, Bool.not_false]
  try rfl

theorem pickL_aft {h : List Blk} {b : Nat} {cv : Value} (s : SrcAt h b cv) (cs : List Value) {n : Nat} (hi : cs.all isI = true) (hcl : cs.length = n) (hn : 0 < n) (hn2 : n ≤ 1000) :
    ∃ (v : Int) (h' : List Blk), (∃ i, i < n ∧ cs[i]? = some (.int .i64 v)) ∧ Aft h h' b cv ∧ AC Tryz.prog 36 [pt b 0, sl h.length 0 n 1] (h ++ [⟨cs, true⟩]) (.int .i64 v) h' := by
  have a0 := s.more [⟨cs, true⟩]
  obtain ⟨v, h', e, a1, c⟩ := pick_aft a0.src (bl := h.length) (n := n) (cs := cs) (r := true) (by simp) (by have := s.lt; omega) hn hn2 (ints_at hi (by omega))
  exact ⟨v, h', e, a0.trans a1, c⟩

/-- The fields among the first k numbers from 256 on. -/
def fl : Nat → List Int
  | 0 => []
  | k + 1 => if fieldB (256 + k) then fl k ++ [((256 + k : Nat) : Int)] else fl k
theorem fl_t {k : Nat} (h : fieldB (256 + k) = true) : fl (k + 1) = fl k ++ [((256 + k : Nat) : Int)] := by rw [fl, if_pos h]
theorem fl_f {k : Nat} (h : fieldB (256 + k) = false) : fl (k + 1) = fl k := by rw [fl, h]; rfl
theorem fl_le : ∀ k, (fl k).length ≤ k
  | 0 => Nat.le_refl 0
  | k + 1 => by have := fl_le k; unfold fl; split <;> simp <;> omega
/-- All fields. -/
def FL : List Int := fl 256
theorem FL_pos : 0 < FL.length := by decide +kernel
theorem FL_le : FL.length ≤ 256 := fl_le 256
theorem FL_eq : fl 256 = FL := rfl
attribute [irreducible] FL
theorem Il_snoc (l : List Int) (x : Int) : Il l ++ [.int .i64 x] = Il (l ++ [x]) := by unfold Il; rw [List.map_append]; rfl
theorem Il_isI (l : List Int) : (Il l).all isI = true := by
  unfold Il; rw [List.all_map, List.all_eq_true]; intro x _; rfl
theorem fieldsS_ac (h : List Blk) : AC Tryz.prog 114 [] h (sl h.length 0 FL.length 1) (h ++ [⟨Il FL, true⟩]) := by
  rw [← FL_eq]
  (refine AC_begin (fun _ _ => Tryz.call114 _ _) Tryz.func114 rfl Tryz.ntmps114 Tryz.results114 (fun hwf => ?_); simp only [List.length_cons, List.length_nil, Nat.reduceAdd, Nat.reduceSub, List.replicate, List.cons_append, List.nil_append])
  (refine sN0 ?_)
  refine WA_forP (fun k => [(1, sl h.length 0 (fl k).length 1), (2, .int .i64 ((256 + k : Nat) : Int)), (3, J), (4, J), (5, J), (6, J), (7, J), (8, J), (9, J), (10, J), (11, J), (12, J), (13, J)]) (fun k => [(0, ⟨Il (fl k), true⟩)]) (256) ?_ ?_ ?_ <;> (try simp only [patT_cons, patT_nil, patL_cons, patL_nil, list_set_zero, list_set_succ, blk_set_zero, blk_set_succ])
  · (exact sS (show (fl 0).length = 0 from rfl))
  · intro k hk
    have hle := fl_le k
    cases hf : fieldB (256 + k)
    · (refine sW (And.intro @Int.toNat_natCast @hf) @fieldS_ac ?_)
      rw [fl_f hf]
      (exact sS @Nat.add_assoc)
    · (refine sW (And.intro @Int.toNat_natCast (And.intro @hf (And.intro @lit1I (And.intro @sub1 @Il_snoc)))) @fieldS_ac ?_)
      rw [fl_t hf, List.length_append]
      (exact gCE @Nat.add_assoc [2])
  · (refine sN0 ?_)
    (exact sR0)

theorem drawByte_aft {h : List Blk} {b : Nat} {cv : Value} (s : SrcAt h b cv) :
    ∃ (v : UInt8) (h' : List Blk), Aft h h' b cv ∧ AC Tryz.prog 100 [pt b 0] h (B v) h' := by
  obtain ⟨x1, h1, _, a1, c1⟩ := next_aft s (N := 4) (by omega) (by omega)
  obtain ⟨x2, h2, _, a2, c2⟩ := next_aft a1.src (N := 256) (by omega) (by omega)
  obtain ⟨x3, h3, _, a3, c3⟩ := next_aft a2.src (N := 256) (by omega) (by omega)
  obtain ⟨v, h4, _, a4, c4⟩ := pickL_aft a3.src [.int .i64 x1, .int .i64 x2, .int .i64 x3, .int .i64 255] (n := 4) rfl rfl (by omega) (by omega)
  have hA := ((a1.trans a2).trans a3).trans a4
  refine ⟨toB v, h4, hA, ?_⟩
  have hlen := hA.len
  (refine AC_begin (fun _ _ => Tryz.call100 _ _) Tryz.func100 rfl Tryz.ntmps100 Tryz.results100 (fun hwf => ?_); simp only [List.length_cons, List.length_nil, Nat.reduceAdd, Nat.reduceSub, List.replicate, List.cons_append, List.nil_append])
  (refine sW0 (And.intro @c1 (And.intro @c2 (And.intro @c3 @c4))) ?_)
  refine ret_full (by first | exact .inr rfl | exact .inl rfl) hlen ?_
  simp (maxSteps := 1000000) (disch := first | omega | rfl | decide | (simp only [List.length_cons, List.length_nil, List.length_append, LV] <;> omega)) only [go_sem, Nat.reduceAdd, Int.reduceAdd, Int.reduceSub, Int.reduceMul, Bool.not_true, Bool.not_false]
  try rfl

/-- A code, as an argument. -/
inductive Cv (h : List Blk) : Value → Prop
  | nil : Cv h (.slice none 0 0)
  | sl {bc n : Nat} {f : Nat → UInt8} {rc : Bool} (hb : h[bc]? = some ⟨Bs n f, rc⟩) (hn : n ≤ 4096) : Cv h (sl bc 0 n 1)
theorem Cv.app {h : List Blk} {cv : Value} (c : Cv h cv) (L : List Blk) : Cv (h ++ L) cv := by
  cases c with
  | nil => exact .nil
  | sl hb hn => exact .sl (look_old hb L) hn
/-- The state of a source after k bytes. -/
def frH (s0 : Int) (f : Nat → UInt8) : Nat → Int
  | 0 => s0
  | k + 1 => IntKind.u64.wrap (IntKind.u64.wrap (IntKind.u64.wrap (frH s0 f k * 1099511628211) + ((f k).toNat : Int)) + 11)
theorem from_aft {h : List Blk} {cv : Value} (c : Cv h cv) : ∃ h', SrcAt h' h.length cv ∧ (∃ L, h' = h ++ L) ∧ AC Tryz.prog 32 [cv] h (pt h.length 0) h' := by
  cases c with
  | nil =>
    refine ⟨h ++ [⟨Sr (.slice none 0 0) ((0 : Nat) : Int) 9001, true⟩], ⟨⟨Sr (.slice none 0 0) ((0 : Nat) : Int) 9001, true⟩, by simp, 0, 9001, 0, fun _ => 0, rfl, Nat.le_refl _, by omega, .nil _⟩, ⟨_, rfl⟩, ?_⟩
    (refine AC_begin (fun _ _ => Tryz.call32 _ _) Tryz.func32 rfl Tryz.ntmps32 Tryz.results32 (fun hwf => ?_); simp only [List.length_cons, List.length_nil, Nat.reduceAdd, Nat.reduceSub, List.replicate, List.cons_append, List.nil_append])
    (repeat (first | ((first | (refine And.intro ?_ ?_; focus exact PLA) | refine WA_seq (WA_region ?_) | refine WA_region ?_ | refine WA_exit ?_); try simp (maxSteps := 1000000) (disch := first | omega | rfl | decide | (simp only [List.length_cons, List.length_nil, List.length_append, LV] <;> omega)) only [go_sem, Nat.reduceAdd, Int.reduceAdd, Int.reduceSub, Int.reduceMul, Bool.not_true, Bool.not_false, yieldA_at 4 16]) | (refine (WA_rb (id := 5) [15] (SubM.refl _) mixedOk ?_); simp only [List.size_toArray, List.length_cons, List.length_nil]; (repeat (first | ((first | (refine And.intro ?_ ?_; focus exact PLA) | refine RB_take false [0, 1, 2, 3, 6, 7, 8] 9 (by rfl) (by kernel_rfl) (by decide) (by decide +kernel) ?_ | refine RB_take true [4, 9] 7 (by rfl) (by kernel_rfl) (by decide) (by decide +kernel) ?_ | refine RB_take false [5, 10, 11, 12, 13, 14] 1 (by rfl) (by kernel_rfl) (by decide) (by decide +kernel) ?_ | refine RB_exec 15 _ (by rfl) (by decide +kernel) (by decide +kernel) ?_ | refine RB_done (by decide +kernel) ?_); try simp (maxSteps := 1000000) (disch := first | omega | rfl | decide | (simp only [List.length_cons, List.length_nil, List.length_append, LV] <;> omega)) only [go_sem, Nat.reduceAdd, Int.reduceAdd, Int.reduceSub, Int.reduceMul, Bool.not_true, Bool.not_false, yieldA_at 4 16])))) | refine WA_seq ?_ | refine WA_block ?_ | (refine WA_skip ?_; try simp only [go_sem]) | (refine WA_ret ?_; try simp only [go_sem]) | refine WA_ct rfl ?_ | refine WA_cf rfl ?_))
    refine WA_forP (fun k => [(4, .int .i64 k), (12, J), (13, J), (14, J), (15, J), (16, J), (17, J), (18, J), (19, J), (20, J), (21, J), (22, J), (23, J), (24, J), (25, J), (26, J), (27, J), (28, J), (29, J), (30, J), (31, J), (32, J), (33, J), (34, J), (35, J), (36, J)]) (fun k => []) (0) ?_ ?_ ?_ <;> (try simp only [patT_cons, patT_nil, patL_cons, patL_nil, list_set_zero, list_set_succ, blk_set_zero, blk_set_succ])
    · (exact sS0)
    · intro k hk
      omega
    · (refine sN (And.intro (show decide ((0 : Nat) < 0) = false from rfl) (And.intro (show decide ((0 : Int) < 0) = false from rfl) (@yieldA_at 4 16))) ?_)
      (exact sR0)
  | @sl bc n f rc hb hn =>
    have hbl := blt hb
    refine ⟨h ++ [⟨Sr (sl bc 0 n 1) ((0 : Nat) : Int) (frH ((9001 + n : Nat) : Int) f n), true⟩], ⟨⟨Sr (sl bc 0 n 1) ((0 : Nat) : Int) (frH ((9001 + n : Nat) : Int) f n), true⟩, by simp, 0, _, n, f, rfl, Nat.zero_le _, hn, .sl f (look_old hb _) (by omega)⟩, ⟨_, rfl⟩, ?_⟩
    (refine AC_begin (fun _ _ => Tryz.call32 _ _) Tryz.func32 rfl Tryz.ntmps32 Tryz.results32 (fun hwf => ?_); simp only [List.length_cons, List.length_nil, Nat.reduceAdd, Nat.reduceSub, List.replicate, List.cons_append, List.nil_append])
    (repeat (first | ((first | (refine And.intro ?_ ?_; focus exact PLA) | refine WA_seq (WA_region ?_) | refine WA_region ?_ | refine WA_exit ?_); try simp (maxSteps := 1000000) (disch := first | omega | rfl | decide | (simp only [List.length_cons, List.length_nil, List.length_append, LV] <;> omega)) only [go_sem, Nat.reduceAdd, Int.reduceAdd, Int.reduceSub, Int.reduceMul, Bool.not_true, Bool.not_false, yieldA_at 4 16]) | (refine (WA_rb (id := 5) [15] (SubM.refl _) mixedOk ?_); simp only [List.size_toArray, List.length_cons, List.length_nil]; (repeat (first | ((first | (refine And.intro ?_ ?_; focus exact PLA) | refine RB_take false [0, 1, 2, 3, 6, 7, 8] 9 (by rfl) (by kernel_rfl) (by decide) (by decide +kernel) ?_ | refine RB_take true [4, 9] 7 (by rfl) (by kernel_rfl) (by decide) (by decide +kernel) ?_ | refine RB_take false [5, 10, 11, 12, 13, 14] 1 (by rfl) (by kernel_rfl) (by decide) (by decide +kernel) ?_ | refine RB_exec 15 _ (by rfl) (by decide +kernel) (by decide +kernel) ?_ | refine RB_done (by decide +kernel) ?_); try simp (maxSteps := 1000000) (disch := first | omega | rfl | decide | (simp only [List.length_cons, List.length_nil, List.length_append, LV] <;> omega)) only [go_sem, Nat.reduceAdd, Int.reduceAdd, Int.reduceSub, Int.reduceMul, Bool.not_true, Bool.not_false, yieldA_at 4 16])))) | refine WA_seq ?_ | refine WA_block ?_ | (refine WA_skip ?_; try simp only [go_sem]) | (refine WA_ret ?_; try simp only [go_sem]) | refine WA_ct rfl ?_ | refine WA_cf rfl ?_))
    refine WA_forP (fun k => [(4, .int .i64 k), (12, J), (13, J), (14, J), (15, J), (16, J), (17, J), (18, J), (19, J), (20, J), (21, J), (22, J), (23, J), (24, J), (25, J), (26, J), (27, J), (28, J), (29, J), (30, J), (31, J), (32, J), (33, J), (34, J), (35, J), (36, J)]) (fun k => [(0, ⟨Sr (sl bc 0 n 1) ((0 : Nat) : Int) (frH ((9001 + n : Nat) : Int) f k), true⟩)]) (n) ?_ ?_ ?_ <;> (try simp only [patT_cons, patT_nil, patL_cons, patL_nil, list_set_zero, list_set_succ, blk_set_zero, blk_set_succ])
    · (exact sS0)
    · intro k hk
      have hx := u8_lt (f k)
      (repeat (first | ((first | (refine And.intro ?_ ?_; focus exact PLA) | refine WA_seq (WA_region ?_) | refine WA_region ?_ | refine WA_exit ?_); try simp (maxSteps := 1000000) (disch := first | omega | rfl | decide | (simp only [List.length_cons, List.length_nil, List.length_append, LV] <;> omega)) only [go_sem, Nat.reduceAdd, Int.reduceAdd, Int.reduceSub, Int.reduceMul, Bool.not_true, Bool.not_false, look_old hb, decide_eq_true hk, show decide (k < 4096) = true from decide_eq_true (by omega), show IntKind.u64.wrap (IntKind.u64.wrap (IntKind.u64.wrap (frH ((9001 + n : Nat) : Int) f k * 1099511628211) + ((f k).toNat : Int)) + 11) = frH ((9001 + n : Nat) : Int) f (k + 1) from rfl, yieldA_at 4 16]) | (refine (WA_rb (id := 5) [15] (SubM.refl _) mixedOk ?_); simp only [List.size_toArray, List.length_cons, List.length_nil]; (repeat (first | ((first | (refine And.intro ?_ ?_; focus exact PLA) | refine RB_take false [0, 1, 2, 3, 6, 7, 8] 9 (by rfl) (by kernel_rfl) (by decide) (by decide +kernel) ?_ | refine RB_take true [4, 9] 7 (by rfl) (by kernel_rfl) (by decide) (by decide +kernel) ?_ | refine RB_take false [5, 10, 11, 12, 13, 14] 1 (by rfl) (by kernel_rfl) (by decide) (by decide +kernel) ?_ | refine RB_exec 15 _ (by rfl) (by decide +kernel) (by decide +kernel) ?_ | refine RB_done (by decide +kernel) ?_); try simp (maxSteps := 1000000) (disch := first | omega | rfl | decide | (simp only [List.length_cons, List.length_nil, List.length_append, LV] <;> omega)) only [go_sem, Nat.reduceAdd, Int.reduceAdd, Int.reduceSub, Int.reduceMul, Bool.not_true, Bool.not_false, look_old hb, decide_eq_true hk, show decide (k < 4096) = true from decide_eq_true (by omega), show IntKind.u64.wrap (IntKind.u64.wrap (IntKind.u64.wrap (frH ((9001 + n : Nat) : Int) f k * 1099511628211) + ((f k).toNat : Int)) + 11) = frH ((9001 + n : Nat) : Int) f (k + 1) from rfl, yieldA_at 4 16])))) | refine WA_seq ?_ | refine WA_block ?_ | (refine WA_skip ?_; try simp only [go_sem]) | (refine WA_ret ?_; try simp only [go_sem]) | refine WA_ct rfl ?_ | refine WA_cf rfl ?_))
      (exact sS0)
    · (refine sN (And.intro (show decide (n < n) = false from decide_eq_false (Nat.lt_irrefl n)) (@yieldA_at 4 16)) ?_)
      (exact sR0)

end Go.Proofs.YtkdpjkpedklbpaaGreatDoor
/- Draws of blocks, places and matrices. -/
namespace Go.Proofs.YtkdpjkpedklbpaaGreatDoor
set_option linter.unusedSimpArgs false
set_option linter.unusedVariables false
set_option maxRecDepth 20000
set_option maxHeartbeats 1000000
open Go.Abs

theorem Cd.lt {h : List Blk} {b n : Nat} {cv : Value} {f : Nat → UInt8} (c : Cd h b cv n f) : ∀ bc n', cv = Go.Abs.sl bc 0 n' 1 → bc < h.length := by
  intro bc n' e
  cases c with
  | nil => cases e
  | sl _ hb hne => cases e; exact blt hb
theorem Cd.set2 {h h0 : List Blk} {b n n0 : Nat} {cv : Value} {f f0 : Nat → UInt8} (c : Cd h b cv n f) (c0 : Cd h0 b cv n0 f0) {i : Nat} (hi : h0.length ≤ i) (x : Blk) : Cd (h.set i x) b cv n f := by
  cases c with
  | nil => exact .nil f
  | sl _ hb hne =>
    have := c0.lt _ _ rfl
    exact .sl _ (set_at hb (by omega)) hne
theorem Aft.set {h h' : List Blk} {b : Nat} {cv : Value} (a : Aft h h' b cv) (s : SrcAt h b cv) {i : Nat} (hi : h.length ≤ i) (x : Blk) : Aft h (h'.set i x) b cv := by
  have hl := s.lt
  obtain ⟨k0, _, _, _, _, _, _, _, _, c0⟩ := s
  refine ⟨?_, fun j y hj hy => ?_, fun h0 hb e => ?_, by simpa using a.len⟩
  · obtain ⟨k, hb, aa, hs, n, f, e, l1, l2, c⟩ := a.src
    exact ⟨k, set_at hb (by omega), aa, hs, n, f, e, l1, l2, c.set2 c0 hi x⟩
  · have := blt hy
    exact set_at (a.keep j y hj hy) (by omega)
  · obtain ⟨L, e2⟩ := a.app h0 hb e
    obtain ⟨A, eA⟩ := e
    have hlen : h0.length ≤ i := by have := congrArg List.length eA; rw [List.length_append] at this; omega
    rw [e2]
    exact app_set' hlen x
theorem seq_ex {S : Type} {I : Nat → S → Prop} {R : Nat → S → S → Prop} {n : Nat} (s0 : S) (h0 : I 0 s0) (hs : ∀ k, k < n → ∀ s, I k s → ∃ t, I (k + 1) t ∧ R k s t) :
    ∃ f : Nat → S, f 0 = s0 ∧ (∀ k, k ≤ n → I k (f k)) ∧ ∀ k, k < n → R k (f k) (f (k + 1)) := by
  have h : ∀ p : Nat × S, ∃ t, p.1 < n → I p.1 p.2 → I (p.1 + 1) t ∧ R p.1 p.2 t := fun p => by
    by_cases hp : p.1 < n ∧ I p.1 p.2
    · obtain ⟨t, ht⟩ := hs p.1 hp.1 p.2 hp.2
      exact ⟨t, fun _ _ => ht⟩
    · exact ⟨p.2, fun a b => absurd ⟨a, b⟩ hp⟩
  obtain ⟨g, hg⟩ := Classical.axiomOfChoice h
  let f : Nat → S := fun k => Nat.rec s0 (fun k s => g (k, s)) k
  have hI : ∀ k, k ≤ n → I k (f k) := fun k => by
    induction k with
    | zero => exact fun _ => h0
    | succ k ih => exact fun hk => (hg (k, f k) (by show k < n; omega) (ih (by omega))).1
  exact ⟨f, rfl, hI, fun k hk => (hg (k, f k) hk (hI k (by omega))).2⟩
theorem drawBlock_aft {h : List Blk} {b : Nat} {cv : Value} (s : SrcAt h b cv) :
    ∃ (f : Nat → UInt8) (h' : List Blk), Aft h h' b cv ∧ AC Tryz.prog 61 [pt b 0] h (.agg (Bs 16 f).toArray) h' := by
  have hbl := s.lt
  have a0 := s.more [⟨Bs 16 zeroF, true⟩, ⟨Bs 16 zeroF, true⟩]
  obtain ⟨x, h1, hx, a1, c1⟩ := next_aft a0.src (N := 5) (by omega) (by omega)
  have hO := a1.keep (h.length + 1) ⟨Bs 16 zeroF, true⟩ (by omega) (by simp)
  have hR := a1.keep (h.length) ⟨Bs 16 zeroF, true⟩ (by omega) (by simp)
  by_cases h0 : x = 0
  · subst h0
    obtain ⟨y, h2, hy, a2, c2⟩ := next_aft a1.src (N := 16) (by omega) (by omega)
    obtain ⟨v, h3, a3, c3⟩ := drawByte_aft a2.src
    have hA := (a0.trans a1).trans (a2.trans a3)
    have hO3 := (a2.trans a3).keep _ _ (by omega) hO
    have hR3 := (a2.trans a3).keep _ _ (by omega) hR
    have hlen := hA.len
    have lO := blt hO3
    refine ⟨upd zeroF y v, (h3.set (h.length + 1) ⟨Bs 16 (upd zeroF y v), true⟩).set h.length ⟨Bs 16 (upd zeroF y v), true⟩, (hA.set s (by omega) _).set s (Nat.le_refl _) _, ?_⟩
    have hR4 := set_at (x := ⟨Bs 16 (upd zeroF y v), true⟩) hR3 (show h.length + 1 ≠ h.length by omega)
    (refine AC_begin (fun _ _ => Tryz.call61 _ _) Tryz.func61 rfl Tryz.ntmps61 Tryz.results61 (fun hwf => ?_); simp only [List.length_cons, List.length_nil, Nat.reduceAdd, Nat.reduceSub, List.replicate, List.cons_append, List.nil_append])
    (repeat (first | ((first | (refine And.intro ?_ ?_; focus exact PLA) | ((first | with_reducible apply callB_i | with_reducible apply callK_intro | with_reducible apply callQ_i); (focus (first | assumption | ((first | with_reducible apply c1 | with_reducible apply c2 | with_reducible apply c3) <;> (first | assumption | rfl | (simp (disch := omega) only [go_sem]; first | done | rfl) | omega | decide | (simp; done))))); (try exact WP_au)) | refine WA_seq (WA_region ?_) | refine WA_region ?_ | refine WA_exit ?_); try simp (maxSteps := 1000000) (disch := first | omega | rfl | decide | (simp only [List.length_cons, List.length_nil, List.length_append, LV] <;> omega)) only [go_sem, Nat.reduceAdd, Int.reduceAdd, Int.reduceSub, Int.reduceMul, Bool.not_true, Bool.not_false, beq_self_eq_true, hO3, hR4, look_set lO]) | refine WA_seq ?_ | refine WA_block ?_ | (refine WA_skip ?_; try simp only [go_sem]) | (refine WA_ret ?_; try simp only [go_sem]) | refine WA_ct rfl ?_ | refine WA_cf rfl ?_))
    refine ret_full (by first | exact .inr rfl | exact .inl rfl) (by simpa using hlen) ?_
    simp (maxSteps := 1000000) (disch := first | omega | rfl | decide | (simp only [List.length_cons, List.length_nil, List.length_append, LV] <;> omega)) only [go_sem, Nat.reduceAdd, Int.reduceAdd, Int.reduceSub, Int.reduceMul, Bool.not_true, Bool.not_false, look_set (blt hR4)]
    try rfl
  · have hx0 : (x == 0) = false := by simpa using h0
    obtain ⟨st, e0, hI, hRt⟩ := seq_ex (S := List Blk × (Nat → UInt8)) (n := 16)
      (I := fun _ s => s.1[h.length + 1]? = some ⟨Bs 16 s.2, true⟩ ∧ s.1[h.length]? = some ⟨Bs 16 zeroF, true⟩ ∧ Aft h s.1 b cv)
      (R := fun k s t => ∃ (x : Nat) (M : List Blk), x < 256 ∧ AC Tryz.prog 33 [pt b 0, .int .i64 ((256 : Nat) : Int)] s.1 (.int .i64 x) M ∧ M[h.length + 1]? = some ⟨Bs 16 s.2, true⟩ ∧ t = (M.set (h.length + 1) ⟨Bs 16 (upd s.2 k (UInt8.ofNat x)), true⟩, upd s.2 k (UInt8.ofNat x)))
      (h1, zeroF) ⟨hO, hR, a0.trans a1⟩ (fun k hk s0 ⟨i1, i2, i3⟩ => by
        obtain ⟨x, M, hx, a, c⟩ := next_aft i3.src (N := 256) (by omega) (by omega)
        have j1 := a.keep _ _ (by omega) i1
        have j2 := a.keep _ _ (by omega) i2
        exact ⟨_, ⟨look_set (blt j1), set_at j2 (by omega), (i3.trans a).set s (by omega) _⟩, x, M, hx, c, j1, rfl⟩)
    obtain ⟨f1, f2, f3⟩ := hI 16 (Nat.le_refl _)
    have hlen := f3.len
    refine ⟨(st 16).2, (st 16).1.set h.length ⟨Bs 16 (st 16).2, true⟩, f3.set s (Nat.le_refl _) _, ?_⟩
    (refine AC_begin (fun _ _ => Tryz.call61 _ _) Tryz.func61 rfl Tryz.ntmps61 Tryz.results61 (fun hwf => ?_); simp only [List.length_cons, List.length_nil, Nat.reduceAdd, Nat.reduceSub, List.replicate, List.cons_append, List.nil_append])
    (refine sW @hx0 @c1 ?_)
    refine WA_forH (fun k => [(4, .int .i64 k), (15, J), (16, J), (17, J), (18, J), (19, J), (20, J), (21, J), (22, J), (23, J)]) (fun k => (st k).1) (16) ?_ ?_ ?_ <;> (try simp only [patT_cons, patT_nil, patL_cons, patL_nil, list_set_zero, list_set_succ, blk_set_zero, blk_set_succ])
    · have e1 : (st 0).1 = h1 := by rw [e0]
      have l1 := (a0.trans a1).len
      rw [e1]
      (exact sA0)
    · intro k hk
      obtain ⟨y, M, hy, c, j1, e⟩ := hRt k hk
      have l1 := (hI (k + 1) hk).2.2.len
      rw [e] at l1 ⊢
      (refine sW @j1 @c ?_)
      (exact sA0)
    · (refine sN (And.intro @f1 @f2) ?_)
      refine ret_full (by first | exact .inr rfl | exact .inl rfl) (by simpa using hlen) ?_
      simp (maxSteps := 1000000) (disch := first | omega | rfl | decide | (simp only [List.length_cons, List.length_nil, List.length_append, LV] <;> omega)) only [go_sem, Nat.reduceAdd, Int.reduceAdd, Int.reduceSub, Int.reduceMul, Bool.not_true, Bool.not_false, look_set (blt f2)]
      try rfl

def idF (k : Nat) : Nat → UInt8 := fun i => if i < k then UInt8.ofNat i else 0
theorem idF_zero : idF 0 = zeroF := by funext i; unfold idF zeroF; rw [if_neg (Nat.not_lt_zero i)]
theorem idF_set (k : Nat) : upd (idF k) k (UInt8.ofNat k) = idF (k + 1) := by
  funext i; show (if i = k then UInt8.ofNat k else if i < k then UInt8.ofNat i else 0) = if i < k + 1 then UInt8.ofNat i else 0
  by_cases h : i = k
  · subst h; rw [if_pos rfl, if_pos (by omega)]
  · rw [if_neg h]
    by_cases h2 : i < k
    · rw [if_pos h2, if_pos (by omega)]
    · rw [if_neg h2, if_neg (by omega)]
end Go.Proofs.YtkdpjkpedklbpaaGreatDoor
/- Draws of fields and boxes. -/
namespace Go.Proofs.YtkdpjkpedklbpaaGreatDoor
set_option linter.unusedSimpArgs false
set_option linter.unusedVariables false
set_option maxRecDepth 20000
set_option maxHeartbeats 1000000
open Go.Abs

theorem fl_field : ∀ (k : Nat) (x : Int), x ∈ fl k → ∃ n : Nat, x = n ∧ fieldB n = true
  | 0, x, h => by simp [fl] at h
  | k + 1, x, h => by
    unfold fl at h
    split at h
    · rename_i hf
      rcases List.mem_append.1 h with h | h
      · exact fl_field k x h
      · exact ⟨256 + k, by simpa using h, hf⟩
    · exact fl_field k x h
theorem FL_field {i : Nat} {v : Int} (h : (Il FL)[i]? = some (.int .i64 v)) : ∃ n : Nat, v = n ∧ fieldB n = true := by
  rw [← FL_eq] at h
  unfold Il at h
  rw [List.getElem?_map, Option.map_eq_some_iff] at h
  obtain ⟨x, hx, e⟩ := h
  cases e
  exact fl_field 256 _ (List.mem_of_getElem? hx)
theorem fieldB_lt {n : Nat} (hf : fieldB n = true) : 256 ≤ n ∧ n < 512 := by
  obtain ⟨k, e, _, h0, h1⟩ := fieldB_nat (m := (n : Int)) (by rw [Int.toNat_natCast]; exact hf)
  omega
theorem f285 : fieldB 285 = true := by decide +kernel
/-- A drawn field is one. -/
theorem drawFld_aft {h : List Blk} {b : Nat} {cv : Value} (s : SrcAt h b cv) :
    ∃ (n : Nat) (h' : List Blk), fieldB n = true ∧ Aft h h' b cv ∧ AC Tryz.prog 86 [pt b 0] h (.int .i64 n) h' := by
  have hbl := s.lt
  have hfp := FL_pos
  have hfl := FL_le
  have a0 := s.more [⟨Il FL, true⟩]
  obtain ⟨x1, h1, hx1, a1, c1⟩ := next_aft a0.src (N := FL.length) hfp (by omega)
  obtain ⟨x2, h2, hx2, a2, c2⟩ := next_aft a1.src (N := FL.length) hfp (by omega)
  have hF0 : (h ++ [(⟨Il FL, true⟩ : Blk)])[h.length]? = some ⟨Il FL, true⟩ := by simp
  have hF1 := a1.keep _ _ (by omega) hF0
  have hF2 := a2.keep _ _ (by omega) hF1
  obtain ⟨v1, hv1⟩ := ints_at (Il_isI FL) (Nat.le_of_eq (Il_length FL).symm) x1 hx1
  obtain ⟨v2, hv2⟩ := ints_at (Il_isI FL) (Nat.le_of_eq (Il_length FL).symm) x2 hx2
  obtain ⟨v, h3, ⟨i, hi, hvi⟩, a4, c3⟩ := pickL_aft a2.src [.int .i64 285, .int .i64 v1, .int .i64 v2] (n := 3) rfl rfl (by omega) (by omega)
  have hA := ((a0.trans a1).trans a2).trans a4
  have hlen := hA.len
  obtain ⟨n, rfl, hn⟩ : ∃ n : Nat, v = n ∧ fieldB n = true := by
    match i, hi, hvi with
    | 0, _, e => cases e; exact ⟨285, rfl, f285⟩
    | 1, _, e => cases e; exact FL_field hv1
    | 2, _, e => cases e; exact FL_field hv2
    | n + 3, h, _ => exact absurd h (by omega)
  refine ⟨n, h3, hn, hA, ?_⟩
  clear a0 a1 a2 a4
  (refine AC_begin (fun _ _ => Tryz.call86 _ _) Tryz.func86 rfl Tryz.ntmps86 Tryz.results86 (fun hwf => ?_); simp only [List.length_cons, List.length_nil, Nat.reduceAdd, Nat.reduceSub, List.replicate, List.cons_append, List.nil_append])
  (repeat (first | ((first | (refine And.intro ?_ ?_; focus exact PLA) | ((first | with_reducible apply callB_i | with_reducible apply callK_intro | with_reducible apply callQ_i); (focus (first | assumption | ((first | with_reducible apply fieldsS_ac | with_reducible apply c1 | with_reducible apply c2 | with_reducible apply c3) <;> (first | assumption | rfl | (simp (disch := omega) only [go_sem]; first | done | rfl) | omega | decide | (simp; done))))); (try exact WP_au)) | refine WA_seq (WA_region ?_) | refine WA_region ?_ | refine WA_exit ?_); try simp (maxSteps := 1000000) (disch := first | omega | rfl | decide | (simp only [List.length_cons, List.length_nil, List.length_append, LV] <;> omega)) only [go_sem, Nat.reduceAdd, Int.reduceAdd, Int.reduceSub, Int.reduceMul, Bool.not_true, Bool.not_false, hF1, hF2, hv1, hv2]) | (refine (WA_rb (id := 2) [5, 7, 12, 14, 15, 16] (SubM.refl _) mixedOk ?_); simp only [List.size_toArray, List.length_cons, List.length_nil]; (repeat' (first | ((first | (refine And.intro ?_ ?_; focus exact PLA) | ((first | with_reducible apply callB_i | with_reducible apply callK_intro | with_reducible apply callQ_i); (focus (first | assumption | ((first | with_reducible apply fieldsS_ac | with_reducible apply c1 | with_reducible apply c2 | with_reducible apply c3) <;> (first | assumption | rfl | (simp (disch := omega) only [go_sem]; first | done | rfl) | omega | decide | (simp; done))))); (try exact WP_au)) | refine RB_take false [0, 1, 2, 3, 4, 8, 9, 10, 11] 9 (by rfl) (by kernel_rfl) (by decide) (by decide +kernel) ?_ | refine RB_exec 5 _ (by rfl) (by decide +kernel) (by decide +kernel) ?_ | refine RB_take false [6] 7 (by rfl) (by kernel_rfl) (by decide) (by decide +kernel) ?_ | refine RB_two 7 12 _ (by rfl) (by decide +kernel) (by decide +kernel) (by decide +kernel) ?_ ?_ | refine RB_exec 12 _ (by rfl) (by decide +kernel) (by decide +kernel) ?_ | refine RB_take false [13] 4 (by rfl) (by kernel_rfl) (by decide) (by decide +kernel) ?_ | refine RB_exec 14 _ (by rfl) (by decide +kernel) (by decide +kernel) ?_ | refine RB_exec 15 _ (by rfl) (by decide +kernel) (by decide +kernel) ?_ | refine RB_exec 16 _ (by rfl) (by decide +kernel) (by decide +kernel) ?_ | refine RB_take false [17] 0 (by rfl) (by kernel_rfl) (by decide) (by decide +kernel) ?_ | refine RB_done (by decide +kernel) ?_ | refine RB_take false [13] 5 (by rfl) (by kernel_rfl) (by decide) (by decide +kernel) ?_ | refine RB_two 7 14 _ (by rfl) (by decide +kernel) (by decide +kernel) (by decide +kernel) ?_ ?_ | refine RB_exec 7 _ (by rfl) (by decide +kernel) (by decide +kernel) ?_) <;> try simp (maxSteps := 1000000) (disch := first | omega | rfl | decide | (simp only [List.length_cons, List.length_nil, List.length_append, LV] <;> omega)) only [go_sem, Nat.reduceAdd, Int.reduceAdd, Int.reduceSub, Int.reduceMul, Bool.not_true, Bool.not_false, hF1, hF2, hv1, hv2])))) | refine WA_seq ?_ | refine WA_block ?_ | (refine WA_skip ?_; try simp only [go_sem]) | (refine WA_ret ?_; try simp only [go_sem]) | refine WA_ct rfl ?_ | refine WA_cf rfl ?_))
  all_goals (refine sN0 ?_)
  all_goals (refine ret_full (by first | exact .inr rfl | exact .inl rfl) hlen ?_)
  all_goals simp (maxSteps := 1000000) (disch := first | omega | rfl | decide | (simp only [List.length_cons, List.length_nil, List.length_append, LV] <;> omega)) only [go_sem, Nat.reduceAdd, Int.reduceAdd, Int.reduceSub, Int.reduceMul, Bool.not_true, Bool.not_false]
  all_goals try rfl

def rotQ (x c : UInt8) : Nat → UInt8
  | 0 => c
  | k + 1 => rotQ x c k ^^^ turnS x ([0, 2, 5].getD k 0)
def rotG (c : UInt8) : Nat → UInt8 := fun i => rotQ (UInt8.ofNat i) c 3
theorem rot25_ac {h : List Blk} {b : Nat} {r : Bool} (hb : h[b]? = some ⟨[.int .i64 0, .int .i64 2, .int .i64 5], r⟩) (c : UInt8) : AC Tryz.prog 112 [sl b 0 3 1, B c] h (.agg (Bs 256 (rotG c)).toArray) h := by
  have hbl := blt hb
  have ht0 : ∀ x h, AC Tryz.prog 132 [B x, .int .i64 0] h (B (turnS x 0)) h := fun x h => turnS_ac x (k := 0) (by omega) h
  have ht1 : ∀ x h, AC Tryz.prog 132 [B x, .int .i64 2] h (B (turnS x 2)) h := fun x h => turnS_ac x (k := 2) (by omega) h
  have ht4 : ∀ x h, AC Tryz.prog 132 [B x, .int .i64 5] h (B (turnS x 5)) h := fun x h => turnS_ac x (k := 5) (by omega) h
  (refine AC_begin (fun _ _ => Tryz.call112 _ _) Tryz.func112 rfl Tryz.ntmps112 Tryz.results112 (fun hwf => ?_); simp only [List.length_cons, List.length_nil, Nat.reduceAdd, Nat.reduceSub, List.replicate, List.cons_append, List.nil_append])
  (refine sN0 ?_)
  refine WA_forP (fun k => [(6, .int .i64 k), (7, J), (8, J), (10, J), (11, J), (12, J), (13, J), (14, J), (15, J), (16, J), (17, J), (18, J), (19, J), (20, J), (21, J), (22, J), (23, J), (24, J), (25, J), (26, J), (27, J), (28, J), (29, J), (30, J), (31, J), (32, J)]) (fun k => [(1, ⟨Bs 256 (pre k (rotG c) fun _ => 0), true⟩)]) (256) ?_ ?_ ?_ <;> (try simp only [patT_cons, patT_nil, patL_cons, patL_nil, list_set_zero, list_set_succ, blk_set_zero, blk_set_succ])
  · rw [pre_zero]
    (exact sS0)
  · intro i hi
    (refine sN0 ?_)
    refine WA_forP (fun k => [(7, B (rotQ (UInt8.ofNat i) c k)), (8, .int .i64 k), (15, J), (16, J), (17, J), (18, J), (19, J), (20, J), (21, J), (22, J), (23, J), (24, J), (25, J), (26, J), (27, J), (28, J), (29, J)]) (fun k => []) (3) ?_ ?_ ?_ <;> (try simp only [patT_cons, patT_nil, patL_cons, patL_nil, list_set_zero, list_set_succ, blk_set_zero, blk_set_succ])
    · (refine Drop_slots (by first | exact Nat.le_refl _ | simp) ?_; focus ((try simp only [JL_same, JL_J, JL_nil, Int.reduceAdd, Nat.sub_sub, Int.natCast_add, Int.natCast_one, Int.natCast_zero, Int.cast_ofNat_Int, Nat.add_zero, Bool.false_eq_true, if_false, if_true, rotQ]); (try exact JL_refl _)))
    · intro k hk
      rcases (show k = 0 ∨ k = 1 ∨ k = 2 by omega) with rfl | rfl | rfl
      · (refine sW (look_old hb) @ht0 ?_)
        (refine Drop_slots (by first | exact Nat.le_refl _ | simp) ?_; focus ((try simp only [JL_same, JL_J, JL_nil, Int.reduceAdd, Nat.sub_sub, Int.natCast_add, Int.natCast_one, Int.natCast_zero, Int.cast_ofNat_Int, Nat.add_zero, Bool.false_eq_true, if_false, if_true, rotQ, List.getD_cons_zero, List.getD_cons_succ]); (try exact JL_refl _)))
      · (refine sW (look_old hb) @ht1 ?_)
        (refine Drop_slots (by first | exact Nat.le_refl _ | simp) ?_; focus ((try simp only [JL_same, JL_J, JL_nil, Int.reduceAdd, Nat.sub_sub, Int.natCast_add, Int.natCast_one, Int.natCast_zero, Int.cast_ofNat_Int, Nat.add_zero, Bool.false_eq_true, if_false, if_true, rotQ, List.getD_cons_zero, List.getD_cons_succ]); (try exact JL_refl _)))
      · (refine sW (look_old hb) @ht4 ?_)
        (refine Drop_slots (by first | exact Nat.le_refl _ | simp) ?_; focus ((try simp only [JL_same, JL_J, JL_nil, Int.reduceAdd, Nat.sub_sub, Int.natCast_add, Int.natCast_one, Int.natCast_zero, Int.cast_ofNat_Int, Nat.add_zero, Bool.false_eq_true, if_false, if_true, rotQ, List.getD_cons_zero, List.getD_cons_succ]); (try exact JL_refl _)))
    · (refine sN (And.intro @upd_pre (show rotQ (UInt8.ofNat i) c 3 = rotG c i from rfl)) ?_)
      (exact sS0)
  · (refine sN0 ?_)
    (exact sR @Bs_pre)

theorem sameS_ac (h : List Blk) : AC Tryz.prog 115 [] h (.agg (Bs 256 (idF 256)).toArray) h := by
  (refine AC_begin (fun _ _ => Tryz.call115 _ _) Tryz.func115 rfl Tryz.ntmps115 Tryz.results115 (fun hwf => ?_); simp only [List.length_cons, List.length_nil, Nat.reduceAdd, Nat.reduceSub, List.replicate, List.cons_append, List.nil_append])
  (refine sN0 ?_)
  refine WA_forP (fun k => [(2, .int .i64 k), (4, J), (5, J), (6, J), (7, J), (8, J), (9, J), (10, J), (11, J)]) (fun k => [(1, ⟨Bs 256 (idF k), true⟩)]) (256) ?_ ?_ ?_ <;> (try simp only [patT_cons, patT_nil, patL_cons, patL_nil, list_set_zero, list_set_succ, blk_set_zero, blk_set_succ])
  · rw [idF_zero]
    (exact sS0)
  · intro k hk
    (refine sN @idF_set ?_)
    (exact sS0)
  · (refine sN0 ?_)
    (exact sR0)

theorem shuffle_aft {h : List Blk} {b : Nat} {cv : Value} (s : SrcAt h b cv) :
    ∃ (f : Nat → UInt8) (h' : List Blk), Aft h h' b cv ∧ AC Tryz.prog 116 [pt b 0] h (.agg (Bs 256 f).toArray) h' := by
  have hbl := s.lt
  have a0 := s.more [⟨Bs 256 zeroF, true⟩, ⟨Bs 256 (idF 256), true⟩]
  obtain ⟨st, e0, hI, hRt⟩ := seq_ex (S := List Blk × (Nat → UInt8)) (n := 255)
    (I := fun _ s => s.1[h.length + 1]? = some ⟨Bs 256 s.2, true⟩ ∧ s.1[h.length]? = some ⟨Bs 256 zeroF, true⟩ ∧ Aft h s.1 b cv)
    (R := fun k s t => ∃ (x : Nat) (M : List Blk), x < 255 - k + 1 ∧ AC Tryz.prog 33 [pt b 0, .int .i64 ((255 - k + 1 : Nat) : Int)] s.1 (.int .i64 x) M ∧ M[h.length + 1]? = some ⟨Bs 256 s.2, true⟩ ∧ t = (M.set (h.length + 1) ⟨Bs 256 (upd (upd s.2 (255 - k) (s.2 x)) x (s.2 (255 - k))), true⟩, upd (upd s.2 (255 - k) (s.2 x)) x (s.2 (255 - k))))
    (h ++ [⟨Bs 256 zeroF, true⟩, ⟨Bs 256 (idF 256), true⟩], idF 256) ⟨by simp, by simp, a0⟩ (fun k hk s0 ⟨i1, i2, i3⟩ => by
      obtain ⟨x, M, hx, a, c⟩ := next_aft i3.src (N := 255 - k + 1) (by omega) (by omega)
      have j1 := a.keep _ _ (by omega) i1
      have j2 := a.keep _ _ (by omega) i2
      exact ⟨_, ⟨look_set (blt j1), set_at j2 (by omega), (i3.trans a).set s (by omega) _⟩, x, M, hx, c, j1, rfl⟩)
  obtain ⟨f1, f2, f3⟩ := hI 255 (Nat.le_refl _)
  have hlen := f3.len
  refine ⟨(st 255).2, (st 255).1.set h.length ⟨Bs 256 (st 255).2, true⟩, f3.set s (Nat.le_refl _) _, ?_⟩
  (refine AC_begin (fun _ _ => Tryz.call116 _ _) Tryz.func116 rfl Tryz.ntmps116 Tryz.results116 (fun hwf => ?_); simp only [List.length_cons, List.length_nil, Nat.reduceAdd, Nat.reduceSub, List.replicate, List.cons_append, List.nil_append])
  (refine sW0 @sameS_ac ?_)
  refine WA_forH (fun k => [(4, .int .i64 ((255 - k : Nat))), (5, J), (6, J), (8, J), (9, J), (10, J), (11, J), (12, J), (13, J), (14, J), (15, J), (16, J), (17, J), (18, J), (19, J), (20, J), (21, J), (22, J), (23, J), (24, J), (25, J), (26, J)]) (fun k => (st k).1) (255) ?_ ?_ ?_ <;> (try simp only [patT_cons, patT_nil, patL_cons, patL_nil, list_set_zero, list_set_succ, blk_set_zero, blk_set_succ])
  · have e1 : (st 0).1 = h ++ [⟨Bs 256 zeroF, true⟩, ⟨Bs 256 (idF 256), true⟩] := by rw [e0]
    have l1 := a0.len
    rw [e1]
    (exact sA0)
  · intro k hk
    obtain ⟨y, M, hy, c, j1, e⟩ := hRt k hk
    have l1 := (hI (k + 1) hk).2.2.len
    rw [e] at l1 ⊢
    (repeat (first | ((first | (refine And.intro ?_ ?_; focus exact PLA) | ((first | with_reducible apply callB_i | with_reducible apply callK_intro | with_reducible apply callQ_i); (focus (first | assumption | (with_reducible apply c <;> (first | assumption | rfl | (simp (disch := omega) only [go_sem]; first | done | rfl) | omega | decide | (simp; done))))); (try exact WP_au)) | refine WA_seq (WA_region ?_) | refine WA_region ?_ | refine WA_exit ?_); try simp (maxSteps := 1000000) (disch := first | omega | rfl | decide | (simp only [List.length_cons, List.length_nil, List.length_append, LV] <;> omega)) only [go_sem, Nat.reduceAdd, Int.reduceAdd, Int.reduceSub, Int.reduceMul, Bool.not_true, Bool.not_false, j1, look_set (blt j1), List.set_set, decide_eq_true (show 0 < 255 - k by omega)]) | refine WA_seq ?_ | refine WA_block ?_ | (refine WA_skip ?_; try simp only [go_sem]) | (refine WA_ret ?_; try simp only [go_sem]) | refine WA_ct rfl ?_ | refine WA_cf rfl ?_))
    (exact sA0)
  · (refine sN (And.intro @f1 @f2) ?_)
    refine ret_full (by first | exact .inr rfl | exact .inl rfl) (by simpa using hlen) ?_
    simp (maxSteps := 1000000) (disch := first | omega | rfl | decide | (simp only [List.length_cons, List.length_nil, List.length_append, LV] <;> omega)) only [go_sem, Nat.reduceAdd, Int.reduceAdd, Int.reduceSub, Int.reduceMul, Bool.not_true, Bool.not_false, look_set (blt f2)]
    try rfl

theorem pick_nat {cs : List Value} {n : Nat} {v : Int} (hcs : ∀ i, i < n → ∃ k : Nat, cs[i]? = some (.int .i64 k) ∧ k ≤ 1000000001) (h : ∃ i, i < n ∧ cs[i]? = some (.int .i64 v)) : ∃ k : Nat, v = k ∧ k ≤ 1000000001 := by
  obtain ⟨i, hi, e⟩ := h
  obtain ⟨k, e2, hk⟩ := hcs i hi
  rw [e2] at e
  cases e
  exact ⟨k, rfl, hk⟩
theorem l02Draw_aft {h : List Blk} {b : Nat} {cv : Value} (s : SrcAt h b cv) :
    ∃ (f : Nat → UInt8) (h' : List Blk), Aft h h' b cv ∧ AC Tryz.prog 87 [pt b 0] h (.agg (Bs 256 f).toArray) h' := by
  have hbl := s.lt
  have a0 := s.more [⟨Bs 256 zeroF, true⟩]
  obtain ⟨x, h1, hx, a1, c1⟩ := next_aft a0.src (N := 6) (by omega) (by omega)
  have hR := a1.keep (h.length) ⟨Bs 256 zeroF, true⟩ (by omega) (by simp)
  have A1 := a0.trans a1
  have n1 := A1.len
  by_cases h0 : x = 0
  · subst h0
    obtain ⟨n, h2, hn, a2, c2⟩ := drawFld_aft a1.src
    obtain ⟨g0, g1⟩ := fieldB_lt hn
    have n2 := a2.len
    have a3 := a2.src.more [⟨[.int .i64 0, .int .i64 1, .int .i64 4], true⟩]
    obtain ⟨y, h4, hy, a4, c4⟩ := next_aft a3.src (N := 256) (by omega) (by omega)
    have hL := a4.keep h2.length ⟨[.int .i64 0, .int .i64 1, .int .i64 4], true⟩ (by omega) (by simp)
    have hc := rotS_ac hL (UInt8.ofNat y)
    have hp : ∀ h, AC Tryz.prog 111 [.int .i64 n, .int .i64 254] h (.agg (Bs 256 (powF n 254)).toArray) h := fun h => powS_ac g0 g1 (e := 254) (by omega) h
    have A := ((A1.trans a2).trans a3).trans a4
    have hR4 := ((a2.trans a3).trans a4).keep _ _ (by omega) hR
    have hlen := A.len
    refine ⟨thenF (powF n 254) (rotF (UInt8.ofNat y)), h4.set h.length ⟨Bs 256 (thenF (powF n 254) (rotF (UInt8.ofNat y))), true⟩, A.set s (Nat.le_refl _) _, ?_⟩
    (refine AC_begin (fun _ _ => Tryz.call87 _ _) Tryz.func87 rfl Tryz.ntmps87 Tryz.results87 (fun hwf => ?_); simp only [List.length_cons, List.length_nil, Nat.reduceAdd, Nat.reduceSub, List.replicate, List.cons_append, List.nil_append])
    (refine sW @hR4 (And.intro @c1 (And.intro @c2 (And.intro @hp (And.intro @c4 (And.intro @hc @thenS_ac))))) ?_)
    refine ret_full (by first | exact .inr rfl | exact .inl rfl) (by simpa using hlen) ?_
    simp (maxSteps := 1000000) (disch := first | omega | rfl | decide | (simp only [List.length_cons, List.length_nil, List.length_append, LV] <;> omega)) only [go_sem, Nat.reduceAdd, Int.reduceAdd, Int.reduceSub, Int.reduceMul, Bool.not_true, Bool.not_false, look_set (blt hR4)]
    try rfl
  · have hx0 : (x == 0) = false := by simpa using h0
    by_cases h1x : x = 1
    · subst h1x
      obtain ⟨n, h2, hn, a2, c2⟩ := drawFld_aft a1.src
      obtain ⟨g0, g1⟩ := fieldB_lt hn
      obtain ⟨v, h3, hv, a3, c3⟩ := pickL_aft a2.src [.int .i64 1, .int .i64 2, .int .i64 7, .int .i64 11, .int .i64 13, .int .i64 127, .int .i64 254] (n := 7) rfl rfl (by omega) (by omega)
      obtain ⟨e, rfl, he⟩ := pick_nat (fun i hi => by
        match i, hi with
        | 0, _ => exact ⟨1, rfl, by omega⟩
        | 1, _ => exact ⟨2, rfl, by omega⟩
        | 2, _ => exact ⟨7, rfl, by omega⟩
        | 3, _ => exact ⟨11, rfl, by omega⟩
        | 4, _ => exact ⟨13, rfl, by omega⟩
        | 5, _ => exact ⟨127, rfl, by omega⟩
        | 6, _ => exact ⟨254, rfl, by omega⟩
        | n + 7, h => exact absurd h (by omega)) hv
      have A := (A1.trans a2).trans a3
      have hR3 := (a2.trans a3).keep _ _ (by omega) hR
      have hlen := A.len
      refine ⟨powF n e, h3.set h.length ⟨Bs 256 (powF n e), true⟩, A.set s (Nat.le_refl _) _, ?_⟩
      (refine AC_begin (fun _ _ => Tryz.call87 _ _) Tryz.func87 rfl Tryz.ntmps87 Tryz.results87 (fun hwf => ?_); simp only [List.length_cons, List.length_nil, Nat.reduceAdd, Nat.reduceSub, List.replicate, List.cons_append, List.nil_append])
      (refine sW (And.intro @hx0 @hR3) (And.intro @c1 (And.intro @c2 (And.intro @c3 (powS_ac g0 g1 (e := e) (by omega))))) ?_)
      refine ret_full (by first | exact .inr rfl | exact .inl rfl) (by simpa using hlen) ?_
      simp (maxSteps := 1000000) (disch := first | omega | rfl | decide | (simp only [List.length_cons, List.length_nil, List.length_append, LV] <;> omega)) only [go_sem, Nat.reduceAdd, Int.reduceAdd, Int.reduceSub, Int.reduceMul, Bool.not_true, Bool.not_false, look_set (blt hR3)]
      try rfl
    · have hx1 : (x == 1) = false := by simpa using h1x
      by_cases h2x : x = 2
      · subst h2x
        have a2 := a1.src.more [⟨[.int .i64 0, .int .i64 2, .int .i64 5], true⟩]
        obtain ⟨y, h3, hy, a3, c3⟩ := next_aft a2.src (N := 256) (by omega) (by omega)
        have hL := a3.keep h1.length ⟨[.int .i64 0, .int .i64 2, .int .i64 5], true⟩ (by omega) (by simp)
        have hc := rot25_ac hL (UInt8.ofNat y)
        have A := (A1.trans a2).trans a3
        have hR3 := (a2.trans a3).keep _ _ (by omega) hR
        have hlen := A.len
        refine ⟨rotG (UInt8.ofNat y), h3.set h.length ⟨Bs 256 (rotG (UInt8.ofNat y)), true⟩, A.set s (Nat.le_refl _) _, ?_⟩
        (refine AC_begin (fun _ _ => Tryz.call87 _ _) Tryz.func87 rfl Tryz.ntmps87 Tryz.results87 (fun hwf => ?_); simp only [List.length_cons, List.length_nil, Nat.reduceAdd, Nat.reduceSub, List.replicate, List.cons_append, List.nil_append])
        (refine sW (And.intro @hx0 (And.intro @hx1 @hR3)) (And.intro @c1 (And.intro @c3 @hc)) ?_)
        refine ret_full (by first | exact .inr rfl | exact .inl rfl) (by simpa using hlen) ?_
        simp (maxSteps := 1000000) (disch := first | omega | rfl | decide | (simp only [List.length_cons, List.length_nil, List.length_append, LV] <;> omega)) only [go_sem, Nat.reduceAdd, Int.reduceAdd, Int.reduceSub, Int.reduceMul, Bool.not_true, Bool.not_false, look_set (blt hR3)]
        try rfl
      · have hx2 : (x == 2) = false := by simpa using h2x
        by_cases h3x : x = 3
        · subst h3x
          have a2 := a1.src.more [⟨Bs 256 (idF 256), true⟩]
          obtain ⟨y, h3, hy, a3, c3⟩ := next_aft a2.src (N := 256) (by omega) (by omega)
          obtain ⟨z, h4, hz, a4, c4⟩ := next_aft a3.src (N := 256) (by omega) (by omega)
          have hO := (a3.trans a4).keep h1.length ⟨Bs 256 (idF 256), true⟩ (by omega) (by simp)
          have A := ((A1.trans a2).trans a3).trans a4
          have hR4 := ((a2.trans a3).trans a4).keep _ _ (by omega) hR
          have hR5 := set_at (x := ⟨Bs 256 (upd (upd (idF 256) y (idF 256 z)) z (idF 256 y)), true⟩) hR4 (show h1.length ≠ h.length by have := blt hR; omega)
          have hlen := A.len
          have hb1 := blt hR
          refine ⟨upd (upd (idF 256) y (idF 256 z)) z (idF 256 y), (h4.set h1.length ⟨Bs 256 (upd (upd (idF 256) y (idF 256 z)) z (idF 256 y)), true⟩).set h.length ⟨Bs 256 (upd (upd (idF 256) y (idF 256 z)) z (idF 256 y)), true⟩, (A.set s (by omega) _).set s (Nat.le_refl _) _, ?_⟩
          (refine AC_begin (fun _ _ => Tryz.call87 _ _) Tryz.func87 rfl Tryz.ntmps87 Tryz.results87 (fun hwf => ?_); simp only [List.length_cons, List.length_nil, Nat.reduceAdd, Nat.reduceSub, List.replicate, List.cons_append, List.nil_append])
          (repeat (first | ((first | (refine And.intro ?_ ?_; focus exact PLA) | ((first | with_reducible apply callB_i | with_reducible apply callK_intro | with_reducible apply callQ_i); (focus (first | assumption | ((first | with_reducible apply c1 | with_reducible apply sameS_ac | with_reducible apply c3 | with_reducible apply c4) <;> (first | assumption | rfl | (simp (disch := omega) only [go_sem]; first | done | rfl) | omega | decide | (simp; done))))); (try exact WP_au)) | refine WA_seq (WA_region ?_) | refine WA_region ?_ | refine WA_exit ?_); try simp (maxSteps := 1000000) (disch := first | omega | rfl | decide | (simp only [List.length_cons, List.length_nil, List.length_append, LV] <;> omega)) only [go_sem, Nat.reduceAdd, Int.reduceAdd, Int.reduceSub, Int.reduceMul, Bool.not_true, Bool.not_false, beq_self_eq_true, hx0, hx1, hx2, hO, look_set (blt hO), List.set_set, hR5]) | refine WA_seq ?_ | refine WA_block ?_ | (refine WA_skip ?_; try simp only [go_sem]) | (refine WA_ret ?_; try simp only [go_sem]) | refine WA_ct rfl ?_ | refine WA_cf rfl ?_))
          refine ret_full (by first | exact .inr rfl | exact .inl rfl) (by simpa using hlen) ?_
          simp (maxSteps := 1000000) (disch := first | omega | rfl | decide | (simp only [List.length_cons, List.length_nil, List.length_append, LV] <;> omega)) only [go_sem, Nat.reduceAdd, Int.reduceAdd, Int.reduceSub, Int.reduceMul, Bool.not_true, Bool.not_false, look_set (blt hR5)]
          try rfl
        · have hx3 : (x == 3) = false := by simpa using h3x
          obtain ⟨f, h2, a2, c2⟩ := shuffle_aft a1.src
          have A := A1.trans a2
          have hR2 := a2.keep _ _ (by omega) hR
          have hlen := A.len
          refine ⟨f, h2.set h.length ⟨Bs 256 f, true⟩, A.set s (Nat.le_refl _) _, ?_⟩
          (refine AC_begin (fun _ _ => Tryz.call87 _ _) Tryz.func87 rfl Tryz.ntmps87 Tryz.results87 (fun hwf => ?_); simp only [List.length_cons, List.length_nil, Nat.reduceAdd, Nat.reduceSub, List.replicate, List.cons_append, List.nil_append])
          (refine sW (And.intro @hx0 (And.intro @hx1 (And.intro @hx2 (And.intro @hx3 @hR2)))) (And.intro @c1 @c2) ?_)
          refine ret_full (by first | exact .inr rfl | exact .inl rfl) (by simpa using hlen) ?_
          simp (maxSteps := 1000000) (disch := first | omega | rfl | decide | (simp only [List.length_cons, List.length_nil, List.length_append, LV] <;> omega)) only [go_sem, Nat.reduceAdd, Int.reduceAdd, Int.reduceSub, Int.reduceMul, Bool.not_true, Bool.not_false, look_set (blt hR2)]
          try rfl

end Go.Proofs.YtkdpjkpedklbpaaGreatDoor
/- CauchyMatrix. -/
namespace Go.Proofs.YtkdpjkpedklbpaaGreatDoor
set_option linter.unusedSimpArgs false
set_option linter.unusedVariables false
set_option maxRecDepth 20000
set_option maxHeartbeats 1000000
open Go.Abs

theorem indexByte_neg : ∀ (l : List UInt8) (x : UInt8), decide (0 ≤ Lib.indexByte l x) = l.any fun y => x == y
  | [], _ => rfl
  | y :: l, x => by
    have ih := indexByte_neg l x
    rw [List.any_cons, ← ih, Lib.indexByte]
    by_cases h : y = x
    · subst h; simp
    · have h1 : (y == x) = false := by simpa using h
      have h2 : (x == y) = false := by simpa using fun e => h e.symm
      have h3 := Lib.indexByte_ge l x
      rw [h1, h2, Bool.false_or, if_neg (by simp)]
      by_cases h4 : Lib.indexByte l x = -1
      · rw [h4]; rfl
      · rw [if_neg (by simpa using h4), decide_eq_decide]; omega
theorem indexByte_twice (f : Nat → UInt8) (i : Nat) : decide (0 ≤ Lib.indexByte ((List.range i).map fun j => f (0 + j)) (f i)) = twiceAt f i i := by
  rw [indexByte_neg, List.any_map]; unfold twiceAt; congr 1; funext j; simp

theorem areDifferent_ac {h : List Blk} {b n : Nat} {f : Nat → UInt8} {r : Bool} (hb : h[b]? = some ⟨Bs n f, r⟩) (hn : n ≤ 140737488355328) : AC Tryz.prog 103 [sl b 0 n 1] h (.bool (!twiceP f n)) h := by
  (refine AC_begin (fun _ _ => Tryz.call103 _ _) Tryz.func103 rfl Tryz.ntmps103 Tryz.results103 (fun hwf => ?_); simp only [List.length_cons, List.length_nil, Nat.reduceAdd, Nat.reduceSub, List.replicate, List.cons_append, List.nil_append])
  (refine sN0 ?_)
  refine WA_forHJ (fun k => twiceP f k = false) (fun k => [(2, J), (3, J), (4, J), (7, .int .i64 k), (8, J), (9, J), (10, J), (11, J), (12, J), (13, J), (14, J), (15, J), (16, J), (17, J), (18, J)]) (fun k => h) (n) ?_ ?_ ?_ ?_ <;> (try simp only [patT_cons, patT_nil, patL_cons, patL_nil, list_set_zero, list_set_succ, blk_set_zero, blk_set_succ])
  · rfl
  · (exact sS0)
  · intro i hi hJ
    have ht := indexByte_twice f i
    have hib := indexByte_ac hb (o := 0) (n := i) (by omega) (f i)
    simp only [Nat.zero_add] at ht hib
    cases he : twiceAt f i i <;> rw [he] at ht
    · (refine sW (And.intro @hb @ht) @hib ?_)
      refine ⟨twiceP_s hJ he, ?_⟩
      (exact sS0)
    · (refine sW (And.intro @hb @ht) @hib ?_)
      (exact sR (twiceP_t hi he))
  · intro hJ
    (refine sN0 ?_)
    (exact sR @hJ)

end Go.Proofs.YtkdpjkpedklbpaaGreatDoor
/- Reducing a matrix: the program. -/
namespace Go.Proofs.YtkdpjkpedklbpaaGreatDoor
set_option linter.unusedSimpArgs false
set_option linter.unusedVariables false
set_option maxRecDepth 20000
set_option maxHeartbeats 1000000
open Go.Abs

set_option maxHeartbeats 8000000 in
theorem redI_ac {m : Nat} (h0 : 256 ≤ m) (h1 : m < 512) (a : Nat → UInt8) (h : List Blk) : AC Tryz.prog 66 [.int .i64 m, .agg (Bs 16 a).toArray] h (.tuple #[B (detF m a), .agg (Bs 16 (backF m a)).toArray]) h := by
  (refine AC_begin (fun _ _ => Tryz.call66 _ _) Tryz.func66 rfl Tryz.ntmps66 Tryz.results66 (fun hwf => ?_); simp only [List.length_cons, List.length_nil, Nat.reduceAdd, Nat.reduceSub, List.replicate, List.cons_append, List.nil_append])
  (refine sW (And.intro (@yieldA_at 2 22) (@yieldA_at 3 109)) @unitI_ac ?_)
  refine WA_forPJ (fun k => sing m a k = false) (fun k => [(4, J), (7, B (rs m a k).d), (8, J), (9, J), (10, J), (11, J), (12, J), (13, J), (14, J), (16, .int .i64 k), (17, J), (18, J), (19, J), (20, J), (21, J), (22, J), (23, J), (24, J), (25, J), (26, J), (27, J), (28, J), (29, J), (30, J), (31, J), (32, J), (33, J), (34, J), (35, J), (36, J), (37, J), (38, J), (39, J), (40, J), (41, J), (42, J), (43, J), (44, J), (45, J), (46, J), (47, J), (48, J), (49, J), (50, J), (51, J), (52, J), (53, J), (54, J), (55, J), (56, J), (57, J), (58, J), (59, J), (60, J), (61, J), (62, J), (63, J), (64, J), (65, J), (66, J), (67, J), (68, J), (69, J), (70, J), (71, J), (72, J), (73, J), (74, J), (75, J), (76, J), (77, J), (78, J), (79, J), (80, J), (81, J), (82, J), (83, J), (84, J), (85, J), (86, J), (87, J), (88, J), (89, J), (90, J), (91, J), (92, J), (93, J), (94, J), (95, J), (96, J), (97, J), (98, J), (99, J), (100, J), (101, J), (102, J), (103, J), (104, J), (105, J), (106, J), (107, J), (108, J), (109, J), (110, J), (111, J), (112, J), (113, J), (114, J), (115, J), (116, J), (117, J), (118, J), (119, J), (120, J), (121, J), (122, J), (123, J), (124, J), (125, J), (126, J), (127, J), (128, J), (129, J), (130, J), (131, J), (132, J), (133, J), (134, J), (135, J), (136, J), (137, J), (138, J), (139, J), (140, J), (141, J), (142, J), (143, J), (144, J), (145, J), (146, J), (147, J), (148, J), (149, J), (150, J)]) (fun k => [(0, ⟨Bs 16 (rs m a k).a, true⟩), (2, ⟨Bs 16 (rs m a k).b, true⟩)]) (4) ?_ ?_ ?_ ?_ <;> (try simp only [patT_cons, patT_nil, patL_cons, patL_nil, list_set_zero, list_set_succ, blk_set_zero, blk_set_succ])
  · rfl
  · (refine Drop_slots (by first | exact Nat.le_refl _ | simp) ?_; focus ((try simp only [JL_same, JL_J, JL_nil, Int.reduceAdd, Nat.sub_sub, Int.natCast_add, Int.natCast_one, Int.natCast_zero, Int.cast_ofNat_Int, Nat.add_zero, Bool.false_eq_true, if_false, if_true, rs]); (try exact JL_refl _)))
  · intro kk hk hJ
    have hs : rs m a (kk + 1) = stepR m kk (rs m a kk) := rfl
    rw [hs]
    have hmono := sing_mono (m := m) (a := a) hk
    have hnext := sing_next hJ
    clear hs hJ
    generalize rs m a kk = s at *
    obtain ⟨A, C, d⟩ := s
    simp only [] at *
    unfold stepR
    simp only []
    have hpl := piv_le A hk
    have hpe : piv A kk = kk + pivC A kk := rfl
    (refine sN (And.intro (@yieldA_at 2 22) (@yieldA_at 3 109)) ?_)
    refine WA_forP (fun k => [(9, .int .i64 ((kk + k : Nat))), (20, J), (21, J), (22, J), (23, J), (24, J), (25, J), (26, J), (27, J), (28, J), (29, J), (30, J), (31, J)]) (fun k => []) (pivC A kk) ?_ ?_ ?_ <;> (try simp only [patT_cons, patT_nil, patL_cons, patL_nil, list_set_zero, list_set_succ, blk_set_zero, blk_set_succ])
    · (exact sS0)
    · intro r hr
      have hg := piv_go hr
      have hg2 := hg.2
      have hd := decide_eq_true hg.1
      (refine sN (And.intro @hg2 (And.intro @hd (And.intro (@yieldA_at 2 22) (@yieldA_at 3 109)))) ?_)
      (exact sS @Nat.add_assoc)
    · by_cases h4 : piv A kk = 4
      · have h4' : kk + pivC A kk = 4 := h4
        have hd : decide (kk + pivC A kk < 4) = false := decide_eq_false (by omega)
        (refine sN (And.intro @hd (And.intro (@yieldA_at 2 22) (@yieldA_at 3 109))) ?_)
        (exact sR (And.intro @detF.eq_1 (And.intro @backF.eq_1 (And.intro (hmono h4) @zeroF.eq_1))))
      · have hpf := piv_end (a := A) hk (by omega)
        have hnx := hnext h4
        clear hmono hnext
        rw [← hpe]
        have hi4 : piv A kk < 4 := by omega
        clear hpl hpe h4
        generalize piv A kk = i at *
        have hd := decide_eq_true hi4
        have hpe1 : swp A i kk = over (over A (i * 4) 4 (fun t => A (kk * 4 + t))) (kk * 4) 4 (fun t => A (i * 4 + t)) := rfl
        have hpe2 : swp C i kk = over (over C (i * 4) 4 (fun t => C (kk * 4 + t))) (kk * 4) 4 (fun t => C (i * 4 + t)) := rfl
        (repeat (first | ((first | (refine And.intro ?_ ?_; focus exact PLA) | ((first | with_reducible apply callB_i | with_reducible apply callK_intro | with_reducible apply callQ_i); (focus (first | assumption | ((first | with_reducible apply tmI_ac h0 h1 | with_reducible apply invI_ac h0 h1) <;> (first | assumption | rfl | (simp (disch := omega) only [go_sem]; first | done | rfl) | omega | decide | (simp; done))))); (try exact WP_au)) | refine WA_seq (WA_region ?_) | refine WA_region ?_ | refine WA_exit ?_); try simp (maxSteps := 1000000) (disch := first | omega | rfl | decide | (simp only [List.length_cons, List.length_nil, List.length_append, LV] <;> omega)) only [go_sem, Nat.reduceAdd, Int.reduceAdd, Int.reduceSub, Int.reduceMul, Bool.not_true, Bool.not_false, hpf, hd, ← hpe1, ← hpe2, yieldA_at 2 22, yieldA_at 3 109]) | (refine (WA_rb (id := 10) [9, 11] (SubM.refl _) mixedOk ?_); simp only [List.size_toArray, List.length_cons, List.length_nil]; (repeat (first | ((first | (refine And.intro ?_ ?_; focus exact PLA) | refine RB_take false [0, 1, 2, 3, 5, 6] 6 (by rfl) (by kernel_rfl) (by decide) (by decide +kernel) ?_ | refine RB_take true [4, 7] 4 (by rfl) (by kernel_rfl) (by decide) (by decide +kernel) ?_ | refine RB_take false [8] 3 (by rfl) (by kernel_rfl) (by decide) (by decide +kernel) ?_ | refine RB_exec 9 _ (by rfl) (by decide +kernel) (by decide +kernel) ?_ | refine RB_take false [10] 1 (by rfl) (by kernel_rfl) (by decide) (by decide +kernel) ?_ | refine RB_exec 11 _ (by rfl) (by decide +kernel) (by decide +kernel) ?_ | refine RB_done (by decide +kernel) ?_); try simp (maxSteps := 1000000) (disch := first | omega | rfl | decide | (simp only [List.length_cons, List.length_nil, List.length_append, LV] <;> omega)) only [go_sem, Nat.reduceAdd, Int.reduceAdd, Int.reduceSub, Int.reduceMul, Bool.not_true, Bool.not_false, hpf, hd, ← hpe1, ← hpe2, yieldA_at 2 22, yieldA_at 3 109])))) | (refine (WA_rb (id := 11) [9, 11] (SubM.refl _) mixedOk ?_); simp only [List.size_toArray, List.length_cons, List.length_nil]; (repeat (first | ((first | (refine And.intro ?_ ?_; focus exact PLA) | refine RB_take false [0, 1, 2, 3, 5, 6] 6 (by rfl) (by kernel_rfl) (by decide) (by decide +kernel) ?_ | refine RB_take true [4, 7] 4 (by rfl) (by kernel_rfl) (by decide) (by decide +kernel) ?_ | refine RB_take false [8] 3 (by rfl) (by kernel_rfl) (by decide) (by decide +kernel) ?_ | refine RB_exec 9 _ (by rfl) (by decide +kernel) (by decide +kernel) ?_ | refine RB_take false [10] 1 (by rfl) (by kernel_rfl) (by decide) (by decide +kernel) ?_ | refine RB_exec 11 _ (by rfl) (by decide +kernel) (by decide +kernel) ?_ | refine RB_done (by decide +kernel) ?_); try simp (maxSteps := 1000000) (disch := first | omega | rfl | decide | (simp only [List.length_cons, List.length_nil, List.length_append, LV] <;> omega)) only [go_sem, Nat.reduceAdd, Int.reduceAdd, Int.reduceSub, Int.reduceMul, Bool.not_true, Bool.not_false, hpf, hd, ← hpe1, ← hpe2, yieldA_at 2 22, yieldA_at 3 109])))) | refine WA_seq ?_ | refine WA_block ?_ | (refine WA_skip ?_; try simp only [go_sem]) | (refine WA_ret ?_; try simp only [go_sem]) | refine WA_ct rfl ?_ | refine WA_cf rfl ?_))
        clear hpe1 hpe2
        generalize swp A i kk = A1
        generalize swp C i kk = C1
        generalize hv : inv m (A1 (kk * 4 + kk)) = v
        refine WA_forP (fun k => [(11, J), (70, .int .i64 k), (71, J), (72, J), (73, J), (74, J), (75, J), (76, J), (77, J), (78, J), (79, J), (80, J), (81, J), (82, J), (83, J), (84, J), (85, J), (86, J), (87, J), (88, J), (89, J), (90, J), (91, J), (92, J), (93, J), (94, J), (95, J), (96, J), (97, J)]) (fun k => [(0, ⟨Bs 16 (scl m A1 kk v k), true⟩), (2, ⟨Bs 16 (scl m C1 kk v k), true⟩)]) (4) ?_ ?_ ?_ <;> (try simp only [patT_cons, patT_nil, patL_cons, patL_nil, list_set_zero, list_set_succ, blk_set_zero, blk_set_succ])
        · rw [scl_zero, scl_zero]
          (exact sS0)
        · intro j hj
          (repeat (first | ((first | (refine And.intro ?_ ?_; focus exact PLA) | ((first | with_reducible apply callB_i | with_reducible apply callK_intro | with_reducible apply callQ_i); (focus (first | assumption | (with_reducible apply tmI_ac h0 h1 <;> (first | assumption | rfl | (simp (disch := omega) only [go_sem]; first | done | rfl) | omega | decide | (simp; done))))); (try exact WP_au)) | refine WA_seq (WA_region ?_) | refine WA_region ?_ | refine WA_exit ?_); try simp (maxSteps := 1000000) (disch := first | omega | rfl | decide | (simp only [List.length_cons, List.length_nil, List.length_append, LV] <;> omega)) only [go_sem, Nat.reduceAdd, Int.reduceAdd, Int.reduceSub, Int.reduceMul, Bool.not_true, Bool.not_false, scl_at, scl_set, yieldA_at 2 22, yieldA_at 3 109]) | (refine (WA_rb (id := 17) [22, 25] (SubM.refl _) mixedOk ?_); simp only [List.size_toArray, List.length_cons, List.length_nil]; (repeat (first | ((first | (refine And.intro ?_ ?_; focus exact PLA) | ((first | with_reducible apply callB_i | with_reducible apply callK_intro | with_reducible apply callQ_i); (focus (first | assumption | (with_reducible apply tmI_ac h0 h1 <;> (first | assumption | rfl | (simp (disch := omega) only [go_sem]; first | done | rfl) | omega | decide | (simp; done))))); (try exact WP_au)) | refine RB_take false [0, 1, 2, 3, 4, 5, 6, 7, 8, 10, 12, 13, 14, 15, 16, 18, 20, 23] 8 (by rfl) (by kernel_rfl) (by decide) (by decide +kernel) ?_ | refine RB_take true [9, 11, 17, 19] 4 (by rfl) (by kernel_rfl) (by decide) (by decide +kernel) ?_ | refine RB_take false [21] 3 (by rfl) (by kernel_rfl) (by decide) (by decide +kernel) ?_ | refine RB_exec 22 _ (by rfl) (by decide +kernel) (by decide +kernel) ?_ | refine RB_take false [24] 1 (by rfl) (by kernel_rfl) (by decide) (by decide +kernel) ?_ | refine RB_exec 25 _ (by rfl) (by decide +kernel) (by decide +kernel) ?_ | refine RB_done (by decide +kernel) ?_); try simp (maxSteps := 1000000) (disch := first | omega | rfl | decide | (simp only [List.length_cons, List.length_nil, List.length_append, LV] <;> omega)) only [go_sem, Nat.reduceAdd, Int.reduceAdd, Int.reduceSub, Int.reduceMul, Bool.not_true, Bool.not_false, scl_at, scl_set, yieldA_at 2 22, yieldA_at 3 109])))) | refine WA_seq ?_ | refine WA_block ?_ | (refine WA_skip ?_; try simp only [go_sem]) | (refine WA_ret ?_; try simp only [go_sem]) | refine WA_ct rfl ?_ | refine WA_cf rfl ?_))
          (exact sS0)
        · (refine sN (And.intro (@yieldA_at 2 22) (@yieldA_at 3 109)) ?_)
          generalize scl m A1 kk v 4 = A2
          generalize scl m C1 kk v 4 = C2
          refine WA_forP (fun k => [(12, J), (13, J), (14, J), (98, .int .i64 k), (99, J), (100, J), (101, J), (102, J), (103, J), (104, J), (105, J), (106, J), (107, J), (108, J), (109, J), (110, J), (111, J), (112, J), (113, J), (114, J), (115, J), (116, J), (117, J), (118, J), (119, J), (120, J), (121, J), (122, J), (123, J), (124, J), (125, J), (126, J), (127, J), (128, J), (129, J), (130, J), (131, J), (132, J), (133, J), (134, J), (135, J), (136, J), (137, J), (138, J), (139, J), (140, J), (141, J), (142, J), (143, J), (144, J), (145, J), (146, J), (147, J), (148, J), (149, J)]) (fun k => [(0, ⟨Bs 16 (elN m kk A2 C2 k).1, true⟩), (2, ⟨Bs 16 (elN m kk A2 C2 k).2, true⟩)]) (4) ?_ ?_ ?_ <;> (try simp only [patT_cons, patT_nil, patL_cons, patL_nil, list_set_zero, list_set_succ, blk_set_zero, blk_set_succ])
          · (exact sS0)
          · intro r hr
            by_cases hrk : r = kk
            · subst hrk
              have hne : (r != r) = false := bne_self_eq_false r
              (refine sN (And.intro @hne (And.intro (@yieldA_at 2 22) (@yieldA_at 3 109))) ?_)
              rw [elN_same]
              (exact sS0)
            · have hne : (r != kk) = true := bne_iff_ne.2 hrk
              cases hz : (elN m kk A2 C2 r).1 (r * 4 + kk) != 0
              · (refine sN (And.intro @hne (And.intro @hz (And.intro (@yieldA_at 2 22) (@yieldA_at 3 109)))) ?_)
                rw [elN_f0 (by simpa using hz)]
                (exact sS0)
              · rw [elN_other hrk]
                generalize elN m kk A2 C2 r = p at *
                obtain ⟨A3, C3⟩ := p
                simp only [] at *
                (refine sN (And.intro @hne (And.intro @hz (And.intro (@yieldA_at 2 22) (@yieldA_at 3 109)))) ?_)
                generalize hf : A3 (r * 4 + kk) = f
                refine WA_forP (fun k => [(14, J), (113, .int .i64 k), (114, J), (115, J), (116, J), (117, J), (118, J), (119, J), (120, J), (121, J), (122, J), (123, J), (124, J), (125, J), (126, J), (127, J), (128, J), (129, J), (130, J), (131, J), (132, J), (133, J), (134, J), (135, J), (136, J), (137, J), (138, J), (139, J), (140, J), (141, J), (142, J), (143, J), (144, J), (145, J), (146, J), (147, J), (148, J)]) (fun k => [(0, ⟨Bs 16 (elm m f kk r A3 k), true⟩), (2, ⟨Bs 16 (elm m f kk r C3 k), true⟩)]) (4) ?_ ?_ ?_ <;> (try simp only [patT_cons, patT_nil, patL_cons, patL_nil, list_set_zero, list_set_succ, blk_set_zero, blk_set_succ])
                · rw [elm_zero, elm_zero]
                  (exact sS0)
                · intro j hj
                  have hkey1 := elm_key (m := m) (f := f) (x := A3) (j := j) hrk hj (by omega)
                  have hkey2 := elm_key (m := m) (f := f) (x := C3) (j := j) hrk hj (by omega)
                  (repeat (first | ((first | (refine And.intro ?_ ?_; focus exact PLA) | ((first | with_reducible apply callB_i | with_reducible apply callK_intro | with_reducible apply callQ_i); (focus (first | assumption | (with_reducible apply tmI_ac h0 h1 <;> (first | assumption | rfl | (simp (disch := omega) only [go_sem]; first | done | rfl) | omega | decide | (simp; done))))); (try exact WP_au)) | refine WA_seq (WA_region ?_) | refine WA_region ?_ | refine WA_exit ?_); try simp (maxSteps := 1000000) (disch := first | omega | rfl | decide | (simp only [List.length_cons, List.length_nil, List.length_append, LV] <;> omega)) only [go_sem, Nat.reduceAdd, Int.reduceAdd, Int.reduceSub, Int.reduceMul, Bool.not_true, Bool.not_false, elm_at, elm_set, hkey1, hkey2, yieldA_at 2 22, yieldA_at 3 109]) | (refine (WA_rb (id := 27) [16] (SubM.refl _) mixedOk ?_); simp only [List.size_toArray, List.length_cons, List.length_nil]; (repeat (first | ((first | (refine And.intro ?_ ?_; focus exact PLA) | ((first | with_reducible apply callB_i | with_reducible apply callK_intro | with_reducible apply callQ_i); (focus (first | assumption | (with_reducible apply tmI_ac h0 h1 <;> (first | assumption | rfl | (simp (disch := omega) only [go_sem]; first | done | rfl) | omega | decide | (simp; done))))); (try exact WP_au)) | refine RB_take false [0, 1, 2, 3, 5, 6, 7, 8, 9, 10, 14] 6 (by rfl) (by kernel_rfl) (by decide) (by decide +kernel) ?_ | refine RB_take true [4, 11, 12] 3 (by rfl) (by kernel_rfl) (by decide) (by decide +kernel) ?_ | refine RB_take false [13, 15] 1 (by rfl) (by kernel_rfl) (by decide) (by decide +kernel) ?_ | refine RB_exec 16 _ (by rfl) (by decide +kernel) (by decide +kernel) ?_ | refine RB_done (by decide +kernel) ?_); try simp (maxSteps := 1000000) (disch := first | omega | rfl | decide | (simp only [List.length_cons, List.length_nil, List.length_append, LV] <;> omega)) only [go_sem, Nat.reduceAdd, Int.reduceAdd, Int.reduceSub, Int.reduceMul, Bool.not_true, Bool.not_false, elm_at, elm_set, hkey1, hkey2, yieldA_at 2 22, yieldA_at 3 109])))) | (refine (WA_rb (id := 28) [16] (SubM.refl _) mixedOk ?_); simp only [List.size_toArray, List.length_cons, List.length_nil]; (repeat (first | ((first | (refine And.intro ?_ ?_; focus exact PLA) | ((first | with_reducible apply callB_i | with_reducible apply callK_intro | with_reducible apply callQ_i); (focus (first | assumption | (with_reducible apply tmI_ac h0 h1 <;> (first | assumption | rfl | (simp (disch := omega) only [go_sem]; first | done | rfl) | omega | decide | (simp; done))))); (try exact WP_au)) | refine RB_take false [0, 1, 2, 3, 5, 6, 7, 8, 9, 10, 14] 6 (by rfl) (by kernel_rfl) (by decide) (by decide +kernel) ?_ | refine RB_take true [4, 11, 12] 3 (by rfl) (by kernel_rfl) (by decide) (by decide +kernel) ?_ | refine RB_take false [13, 15] 1 (by rfl) (by kernel_rfl) (by decide) (by decide +kernel) ?_ | refine RB_exec 16 _ (by rfl) (by decide +kernel) (by decide +kernel) ?_ | refine RB_done (by decide +kernel) ?_); try simp (maxSteps := 1000000) (disch := first | omega | rfl | decide | (simp only [List.length_cons, List.length_nil, List.length_append, LV] <;> omega)) only [go_sem, Nat.reduceAdd, Int.reduceAdd, Int.reduceSub, Int.reduceMul, Bool.not_true, Bool.not_false, elm_at, elm_set, hkey1, hkey2, yieldA_at 2 22, yieldA_at 3 109])))) | refine WA_seq ?_ | refine WA_block ?_ | (refine WA_skip ?_; try simp only [go_sem]) | (refine WA_ret ?_; try simp only [go_sem]) | refine WA_ct rfl ?_ | refine WA_cf rfl ?_))
                  (exact sS0)
                · (refine sN (And.intro (@yieldA_at 2 22) (@yieldA_at 3 109)) ?_)
                  (exact sS0)
          · (refine sN (And.intro (@yieldA_at 2 22) (@yieldA_at 3 109)) ?_)
            refine ⟨hnx, ?_⟩
            (exact sS0)
  · intro hJ
    (repeat (first | ((first | (refine And.intro ?_ ?_; focus exact PLA) | refine WA_seq (WA_region ?_) | refine WA_region ?_ | refine WA_exit ?_); try simp (maxSteps := 1000000) (disch := first | omega | rfl | decide | (simp only [List.length_cons, List.length_nil, List.length_append, LV] <;> omega)) only [go_sem, Nat.reduceAdd, Int.reduceAdd, Int.reduceSub, Int.reduceMul, Bool.not_true, Bool.not_false, yieldA_at 2 22, yieldA_at 3 109]) | (refine (WA_rb (id := 32) [3] (SubM.refl _) mixedOk ?_); simp only [List.size_toArray, List.length_cons, List.length_nil]; (repeat (first | ((first | (refine And.intro ?_ ?_; focus exact PLA) | refine RB_take false [0, 2] 2 (by rfl) (by kernel_rfl) (by decide) (by decide +kernel) ?_ | refine RB_take true [1] 1 (by rfl) (by kernel_rfl) (by decide) (by decide +kernel) ?_ | refine RB_exec 3 _ (by rfl) (by decide +kernel) (by decide +kernel) ?_ | refine RB_done (by decide +kernel) ?_); try simp (maxSteps := 1000000) (disch := first | omega | rfl | decide | (simp only [List.length_cons, List.length_nil, List.length_append, LV] <;> omega)) only [go_sem, Nat.reduceAdd, Int.reduceAdd, Int.reduceSub, Int.reduceMul, Bool.not_true, Bool.not_false, yieldA_at 2 22, yieldA_at 3 109])))) | refine WA_seq ?_ | refine WA_block ?_ | (refine WA_skip ?_; try simp only [go_sem]) | (refine WA_ret ?_; try simp only [go_sem]) | refine WA_ct rfl ?_ | refine WA_cf rfl ?_))
    (exact sR (And.intro @detF.eq_1 (And.intro @backF.eq_1 @hJ)))

end Go.Proofs.YtkdpjkpedklbpaaGreatDoor
/- DeterminantIn, InverseMatrix. -/
namespace Go.Proofs.YtkdpjkpedklbpaaGreatDoor
set_option linter.unusedSimpArgs false
set_option linter.unusedVariables false
set_option maxRecDepth 20000
set_option maxHeartbeats 1000000
open Go.Abs

theorem inverseS_ac {m : Nat} (h0 : 256 ≤ m) (h1 : m < 512) (a : Nat → UInt8) (h : List Blk) : AC Tryz.prog 74 [.int .i64 m, .agg (Bs 16 a).toArray] h (.tuple #[.agg (Bs 16 (backF m a)).toArray, .bool (detF m a != 0)]) h := by
  (refine AC_begin (fun _ _ => Tryz.call74 _ _) Tryz.func74 rfl Tryz.ntmps74 Tryz.results74 (fun hwf => ?_); simp only [List.length_cons, List.length_nil, Nat.reduceAdd, Nat.reduceSub, List.replicate, List.cons_append, List.nil_append])
  (refine sW0 (redS_ac h0 h1) ?_)
  (exact sR0)

end Go.Proofs.YtkdpjkpedklbpaaGreatDoor
/- Draws of ciphers. -/
namespace Go.Proofs.YtkdpjkpedklbpaaGreatDoor
set_option linter.unusedSimpArgs false
set_option linter.unusedVariables false
set_option maxRecDepth 20000
set_option maxHeartbeats 1000000
open Go.Abs

/-- The matrix that is taken if the drawn one has no inverse. -/
def lowM (z : UInt8) : Nat → UInt8 := fun i => if i % 5 = 0 then 1 else if i = 12 then z else 0
theorem r4_0 (x : Value) : splice (Bs 4 fun _ => 0) 0 [x] = [x, B 0, B 0, B 0] := rfl
theorem r4_1 (a b c d x : Value) : splice [a, b, c, d] 1 [x] = [a, x, c, d] := rfl
theorem r4_2 (a b c d x : Value) : splice [a, b, c, d] 2 [x] = [a, b, x, d] := rfl
theorem r4_3 (a b c d x : Value) : splice [a, b, c, d] 3 [x] = [a, b, c, x] := rfl
theorem m16_0 (a b c d : Value) : splice (Bs 16 fun _ => 0) (0 * 4) [a, b, c, d] = [a, b, c, d, B 0, B 0, B 0, B 0, B 0, B 0, B 0, B 0, B 0, B 0, B 0, B 0] := rfl
theorem m16_1 (e0 e1 e2 e3 e4 e5 e6 e7 e8 e9 e10 e11 e12 e13 e14 e15 a b c d : Value) : splice [e0, e1, e2, e3, e4, e5, e6, e7, e8, e9, e10, e11, e12, e13, e14, e15] 4 [a, b, c, d] = [e0, e1, e2, e3, a, b, c, d, e8, e9, e10, e11, e12, e13, e14, e15] := rfl
theorem m16_2 (e0 e1 e2 e3 e4 e5 e6 e7 e8 e9 e10 e11 e12 e13 e14 e15 a b c d : Value) : splice [e0, e1, e2, e3, e4, e5, e6, e7, e8, e9, e10, e11, e12, e13, e14, e15] (2 * 4) [a, b, c, d] = [e0, e1, e2, e3, e4, e5, e6, e7, a, b, c, d, e12, e13, e14, e15] := rfl
theorem m16_3 (e0 e1 e2 e3 e4 e5 e6 e7 e8 e9 e10 e11 e12 e13 e14 e15 a b c d : Value) : splice [e0, e1, e2, e3, e4, e5, e6, e7, e8, e9, e10, e11, e12, e13, e14, e15] (3 * 4) [a, b, c, d] = [e0, e1, e2, e3, e4, e5, e6, e7, e8, e9, e10, e11, a, b, c, d] := rfl
theorem lowM_is (z : UInt8) : ([B 1, B 0, B 0, B 0, B 0, B 1, B 0, B 0, B 0, B 0, B 1, B 0, B z, B 0, B 0, B 1] : List Value) = Bs 16 (lowM z) := rfl
set_option maxHeartbeats 8000000 in
theorem l04DrawB_aft {h : List Blk} {b : Nat} {cv : Value} (s : SrcAt h b cv) :
    ∃ (m : Int) (bx mx pl : Nat → UInt8) (r : Int) (h' : List Blk), ((0 ≤ r ∧ r ≤ 999) ∧ (0 ≤ m ∧ m ≤ 511)) ∧ Aft h h' b cv ∧ AC Tryz.prog 47 [pt b 0] h (.agg (Ci m bx mx pl r).toArray) h' := by
  have hbl := s.lt
  have a0 := s.more [⟨Ci 0 zeroF zeroF zeroF 0, true⟩]
  obtain ⟨x, h1, hx, a1, c1⟩ := next_aft a0.src (N := 20) (by omega) (by omega)
  obtain ⟨v, h2, hv, a2, c2⟩ := pickL_aft a1.src [.int .i64 0, .int .i64 1, .int .i64 2, .int .i64 3, .int .i64 5, .int .i64 9, .int .i64 x] (n := 7) rfl rfl (by omega) (by omega)
  obtain ⟨e, rfl, he⟩ : ∃ e : Nat, v = e ∧ e ≤ 20 := by
    obtain ⟨i, hi, e⟩ := hv
    match i, hi, e with
    | 0, _, e => cases e; exact ⟨0, rfl, by omega⟩
    | 1, _, e => cases e; exact ⟨1, rfl, by omega⟩
    | 2, _, e => cases e; exact ⟨2, rfl, by omega⟩
    | 3, _, e => cases e; exact ⟨3, rfl, by omega⟩
    | 4, _, e => cases e; exact ⟨5, rfl, by omega⟩
    | 5, _, e => cases e; exact ⟨9, rfl, by omega⟩
    | 6, _, e => cases e; exact ⟨x, rfl, by omega⟩
    | n + 7, h, _ => exact absurd h (by omega)
  obtain ⟨r, hr⟩ : ∃ r : Int, r = ((1 + e : Nat) : Int) := ⟨_, rfl⟩
  have a3 := a2.src.more [⟨Ci 285 hBoxF hMixF hPlF r, true⟩]
  obtain ⟨y, h3, hy, a4, c3⟩ := next_aft a3.src (N := 2) (by omega) (by omega)
  have A4 := (((a0.trans a1).trans a2).trans a3).trans a4
  have l2 := a2.src.lt
  have hR2 := (a1.trans a2).keep h.length ⟨Ci 0 zeroF zeroF zeroF 0, true⟩ (by omega) (by simp)
  have hlt := blt hR2
  have hR4 := (a3.trans a4).keep _ _ (by omega) hR2
  have hC4 := a4.keep h2.length ⟨Ci 285 hBoxF hMixF hPlF r, true⟩ (by omega) (by simp)
  have hw1 : IntKind.i64.wrap (1 + (e : Int)) = r := by rw [hr, show (1 + (e : Int)) = ((1 + e : Nat) : Int) by omega]; exact wrap_N (by omega)
  have hrs := hr.symm
  have hr0 : 0 ≤ r ∧ r ≤ 999 := by omega
  by_cases hy0 : y = 0
  · subst hy0
    have hlen := A4.len
    refine ⟨285, hBoxF, hMixF, hPlF, r, h3.set h.length ⟨Ci 285 hBoxF hMixF hPlF r, true⟩, ⟨hr0, by omega⟩, A4.set s (Nat.le_refl _) _, ?_⟩
    (refine AC_begin (fun _ _ => Tryz.call47 _ _) Tryz.func47 rfl Tryz.ntmps47 Tryz.results47 (fun hwf => ?_); simp only [List.length_cons, List.length_nil, Nat.reduceAdd, Nat.reduceSub, List.replicate, List.cons_append, List.nil_append])
    (refine sW (And.intro @hw1 (And.intro @hrs (And.intro @Ci_splice0 (And.intro @Ci_splice1 (And.intro @Ci_splice2 (And.intro @Ci_splice4 (And.intro @Ci_splice_all (And.intro @hR4 @hC4)))))))) (And.intro @c1 (And.intro @c2 (And.intro @c3 @houseS_ac))) ?_)
    refine ret_full (by first | exact .inr rfl | exact .inl rfl) (by simpa using hlen) ?_
    simp (maxSteps := 1000000) (disch := first | omega | rfl | decide | (simp only [List.length_cons, List.length_nil, List.length_append, LV] <;> omega)) only [go_sem, Nat.reduceAdd, Int.reduceAdd, Int.reduceSub, Int.reduceMul, Bool.not_true, Bool.not_false, look_set (blt hR4)]
    try rfl
  · have hyb : (y == 0) = false := by simpa using hy0
    have hlh : h.length < h2.length := hlt
    have hbc : h2.length ≠ b := by omega
    obtain ⟨n, h5, hn, a5, c5⟩ := drawFld_aft a4.src
    obtain ⟨g0, g1⟩ := fieldB_lt hn
    have hC5 := a5.keep _ _ hbc hC4
    have hR5 := a5.keep _ _ (by omega) hR4
    have A5 := (A4.trans a5).set s (show h.length ≤ h2.length by omega) ⟨Ci n hBoxF hMixF hPlF r, true⟩
    have hC5' := look_set (x := ⟨Ci n hBoxF hMixF hPlF r, true⟩) (blt hC5)
    have hR5' := set_at (x := ⟨Ci n hBoxF hMixF hPlF r, true⟩) hR5 (show h2.length ≠ h.length by omega)
    obtain ⟨f, h6, a6, c6⟩ := l02Draw_aft A5.src
    have hC6 := a6.keep _ _ hbc hC5'
    have hR6 := a6.keep _ _ (by omega) hR5'
    have A6 := (A5.trans a6).set s (show h.length ≤ h2.length by omega) ⟨Ci n f hMixF hPlF r, true⟩
    have hC6' := look_set (x := ⟨Ci n f hMixF hPlF r, true⟩) (blt hC6)
    have hR6' := set_at (x := ⟨Ci n f hMixF hPlF r, true⟩) hR6 (show h2.length ≠ h.length by omega)
    obtain ⟨q, h7, hq, a7, c7⟩ := next_aft A6.src (N := 4) (by omega) (by omega)
    have A7 := A6.trans a7
    obtain ⟨st, e0, hI, hRt⟩ := seq_ex (S := List Blk × (Nat → UInt8)) (n := q)
      (I := fun _ s => s.1[h2.length]? = some ⟨Ci n f s.2 hPlF r, true⟩ ∧ s.1[h.length]? = some ⟨Ci 0 zeroF zeroF zeroF 0, true⟩ ∧ Aft h s.1 b cv)
      (R := fun _ s t => ∃ (i j z : Nat) (M1 M2 M3 : List Blk), i < 4 ∧ j < 4 ∧ z < 256 ∧ AC Tryz.prog 33 [pt b 0, .int .i64 ((4 : Nat) : Int)] s.1 (.int .i64 i) M1 ∧ AC Tryz.prog 33 [pt b 0, .int .i64 ((4 : Nat) : Int)] M1 (.int .i64 j) M2 ∧ AC Tryz.prog 33 [pt b 0, .int .i64 ((256 : Nat) : Int)] M2 (.int .i64 z) M3 ∧ M3[h2.length]? = some ⟨Ci n f s.2 hPlF r, true⟩ ∧ t = (M3.set h2.length ⟨Ci n f (upd s.2 (i * 4 + j) (UInt8.ofNat z)) hPlF r, true⟩, upd s.2 (i * 4 + j) (UInt8.ofNat z)))
      (h7, hMixF) ⟨a7.keep _ _ hbc hC6', a7.keep _ _ (by omega) hR6', A7⟩ (fun k hk s0 ⟨i1, i2, i3⟩ => by
        obtain ⟨i, M1, hi, r1, d1⟩ := next_aft i3.src (N := 4) (by omega) (by omega)
        obtain ⟨j, M2, hj, r2, d2⟩ := next_aft r1.src (N := 4) (by omega) (by omega)
        obtain ⟨z, M3, hz, r3, d3⟩ := next_aft r2.src (N := 256) (by omega) (by omega)
        have a := (r1.trans r2).trans r3
        have j1 := a.keep _ _ hbc i1
        have j2 := a.keep _ _ (by omega) i2
        exact ⟨_, ⟨look_set (blt j1), set_at j2 (by omega), (i3.trans a).set s (by omega) _⟩, i, j, z, M1, M2, M3, hi, hj, hz, d1, d2, d3, j1, rfl⟩)
    obtain ⟨f1, f2, f3⟩ := hI q (Nat.le_refl _)
    obtain ⟨mq, hmq⟩ : ∃ mq, mq = (st q).2 := ⟨_, rfl⟩
    obtain ⟨Mq, hMq⟩ : ∃ Mq, Mq = (st q).1 := ⟨_, rfl⟩
    rw [← hmq, ← hMq] at f1
    rw [← hMq] at f2 f3
    have hw1' := hw1
    have a8 := f3.src.more [⟨Bs 16 (backF n mq), true⟩]
    have hC8 := look_old f1 [⟨Bs 16 (backF n mq), true⟩]
    have hR8 := look_old f2 [⟨Bs 16 (backF n mq), true⟩]
    cases hdet : (detF n mq != 0)
    · obtain ⟨z, h9, hz, a9, c9⟩ := next_aft a8.src (N := 256) (by omega) (by omega)
      have hC9 := a9.keep _ _ hbc hC8
      have hR9 := a9.keep _ _ (by omega) hR8
      have A9 := ((f3.trans a8).trans a9).set s (show h.length ≤ h2.length by omega) ⟨Ci n f (lowM (UInt8.ofNat z)) hPlF r, true⟩
      have hC9' := look_set (x := ⟨Ci n f (lowM (UInt8.ofNat z)) hPlF r, true⟩) (blt hC9)
      have hR9' := set_at (x := ⟨Ci n f (lowM (UInt8.ofNat z)) hPlF r, true⟩) hR9 (show h2.length ≠ h.length by omega)
      obtain ⟨i, h10, hi, a10, c10⟩ := next_aft A9.src (N := 16) (by omega) (by omega)
      obtain ⟨j, h11, hj, a11, c11⟩ := next_aft a10.src (N := 16) (by omega) (by omega)
      have A11 := (A9.trans a10).trans a11
      have hC11 := (a10.trans a11).keep _ _ hbc hC9'
      have hR11 := (a10.trans a11).keep _ _ (by omega) hR9'
      have hR12 := set_at (x := ⟨Ci n f (lowM (UInt8.ofNat z)) (upd (upd hPlF i (hPlF j)) j (hPlF i)) r, true⟩) hR11 (show h2.length ≠ h.length by omega)
      have hlen := A11.len
      refine ⟨n, f, lowM (UInt8.ofNat z), upd (upd hPlF i (hPlF j)) j (hPlF i), r, (h11.set h2.length ⟨Ci n f (lowM (UInt8.ofNat z)) (upd (upd hPlF i (hPlF j)) j (hPlF i)) r, true⟩).set h.length ⟨Ci n f (lowM (UInt8.ofNat z)) (upd (upd hPlF i (hPlF j)) j (hPlF i)) r, true⟩, ⟨hr0, by omega⟩, (A11.set s (by omega) _).set s (Nat.le_refl _) _, ?_⟩
      (refine AC_begin (fun _ _ => Tryz.call47 _ _) Tryz.func47 rfl Tryz.ntmps47 Tryz.results47 (fun hwf => ?_); simp only [List.length_cons, List.length_nil, Nat.reduceAdd, Nat.reduceSub, List.replicate, List.cons_append, List.nil_append])
      (refine sW (And.intro @hyb (And.intro @hw1 (And.intro @hrs (And.intro @Ci_splice0 (And.intro @Ci_splice1 (And.intro @Ci_splice2 (And.intro @Ci_splice4 (And.intro @Ci_splice_all (And.intro @hR4 (And.intro @hC4 (And.intro @hC5 @hC6))))))))))) (And.intro @c1 (And.intro @c2 (And.intro @c3 (And.intro @houseS_ac (And.intro @c5 (And.intro @c6 @c7)))))) ?_)
      refine WA_forH (fun k => [(4, .int .i64 ((q - k : Nat))), (29, J), (30, J), (31, J), (32, J), (33, J), (34, J), (35, J), (36, J), (37, J), (38, J), (39, J), (40, J), (41, J), (42, J)]) (fun k => (st k).1) (q) ?_ ?_ ?_ <;> (try simp only [patT_cons, patT_nil, patL_cons, patL_nil, list_set_zero, list_set_succ, blk_set_zero, blk_set_succ])
      · have e1 : (st 0).1 = h7 := by rw [e0]
        have l1 := A7.len
        rw [e1]
        (exact sA0)
      · intro k hk
        obtain ⟨i, j, z, M1, M2, M3, hi, hj, hz, d1, d2, d3, j1, e⟩ := hRt k hk
        have l1 := (hI (k + 1) hk).2.2.len
        rw [e] at l1 ⊢
        (repeat (first | ((first | (refine And.intro ?_ ?_; focus exact PLA) | ((first | with_reducible apply callB_i | with_reducible apply callK_intro | with_reducible apply callQ_i); (focus (first | assumption | ((first | with_reducible apply d1 | with_reducible apply d2 | with_reducible apply d3) <;> (first | assumption | rfl | (simp (disch := omega) only [go_sem]; first | done | rfl) | omega | decide | (simp; done))))); (try exact WP_au)) | refine WA_seq (WA_region ?_) | refine WA_region ?_ | refine WA_exit ?_); try simp (maxSteps := 1000000) (disch := first | omega | rfl | decide | (simp only [List.length_cons, List.length_nil, List.length_append, LV] <;> omega)) only [go_sem, Nat.reduceAdd, Int.reduceAdd, Int.reduceSub, Int.reduceMul, Bool.not_true, Bool.not_false, j1, decide_eq_true (show 0 < q - k by omega)]) | (refine (WA_rb (id := 9) [1, 3, 5, 10] (SubM.refl _) mixedOk ?_); simp only [List.size_toArray, List.length_cons, List.length_nil]; (repeat (first | ((first | (refine And.intro ?_ ?_; focus exact PLA) | ((first | with_reducible apply callB_i | with_reducible apply callK_intro | with_reducible apply callQ_i); (focus (first | assumption | ((first | with_reducible apply d1 | with_reducible apply d2 | with_reducible apply d3) <;> (first | assumption | rfl | (simp (disch := omega) only [go_sem]; first | done | rfl) | omega | decide | (simp; done))))); (try exact WP_au)) | refine RB_take false [0, 2, 4, 7] 7 (by rfl) (by kernel_rfl) (by decide) (by decide +kernel) ?_ | refine RB_exec 1 _ (by rfl) (by decide +kernel) (by decide +kernel) ?_ | refine RB_take false [8] 5 (by rfl) (by kernel_rfl) (by decide) (by decide +kernel) ?_ | refine RB_exec 3 _ (by rfl) (by decide +kernel) (by decide +kernel) ?_ | refine RB_exec 5 _ (by rfl) (by decide +kernel) (by decide +kernel) ?_ | refine RB_take false [6, 9] 1 (by rfl) (by kernel_rfl) (by decide) (by decide +kernel) ?_ | refine RB_exec 10 _ (by rfl) (by decide +kernel) (by decide +kernel) ?_ | refine RB_done (by decide +kernel) ?_); try simp (maxSteps := 1000000) (disch := first | omega | rfl | decide | (simp only [List.length_cons, List.length_nil, List.length_append, LV] <;> omega)) only [go_sem, Nat.reduceAdd, Int.reduceAdd, Int.reduceSub, Int.reduceMul, Bool.not_true, Bool.not_false, j1, decide_eq_true (show 0 < q - k by omega)])))) | refine WA_seq ?_ | refine WA_block ?_ | (refine WA_skip ?_; try simp only [go_sem]) | (refine WA_ret ?_; try simp only [go_sem]) | refine WA_ct rfl ?_ | refine WA_cf rfl ?_))
        all_goals (exact sA0)
      · rw [← hMq]
        (repeat (first | ((first | (refine And.intro ?_ ?_; focus exact PLA) | ((first | with_reducible apply callB_i | with_reducible apply callK_intro | with_reducible apply callQ_i); (focus (first | assumption | ((first | with_reducible apply inverseS_ac g0 g1 | with_reducible apply c9 | with_reducible apply c10 | with_reducible apply c11) <;> (first | assumption | rfl | (simp (disch := omega) only [go_sem]; first | done | rfl) | omega | decide | (simp; done))))); (try exact WP_au)) | refine WA_seq (WA_region ?_) | refine WA_region ?_ | refine WA_exit ?_); try simp (maxSteps := 1000000) (disch := first | omega | rfl | decide | (simp only [List.length_cons, List.length_nil, List.length_append, LV] <;> omega)) only [go_sem, Nat.reduceAdd, Int.reduceAdd, Int.reduceSub, Int.reduceMul, Bool.not_true, Bool.not_false, Ci_splice2, Ci_splice3, Ci_splice_all, f1, hC8, hdet, r4_0, r4_1, r4_2, r4_3, m16_0, m16_1, m16_2, m16_3, lowM_is, Bool.not_false, Nat.sub_self, hC9, hC11, look_set (blt hC11), List.set_set, hR12]) | refine WA_seq ?_ | refine WA_block ?_ | (refine WA_skip ?_; try simp only [go_sem]) | (refine WA_ret ?_; try simp only [go_sem]) | refine WA_ct rfl ?_ | refine WA_cf rfl ?_))
        refine ret_full (by first | exact .inr rfl | exact .inl rfl) (by simpa using hlen) ?_
        simp (maxSteps := 1000000) (disch := first | omega | rfl | decide | (simp only [List.length_cons, List.length_nil, List.length_append, LV] <;> omega)) only [go_sem, Nat.reduceAdd, Int.reduceAdd, Int.reduceSub, Int.reduceMul, Bool.not_true, Bool.not_false, look_set (blt hR12)]
        try rfl
    · obtain ⟨i, h10, hi, a10, c10⟩ := next_aft a8.src (N := 16) (by omega) (by omega)
      obtain ⟨j, h11, hj, a11, c11⟩ := next_aft a10.src (N := 16) (by omega) (by omega)
      have A11 := ((f3.trans a8).trans a10).trans a11
      have hC11 := (a10.trans a11).keep _ _ hbc hC8
      have hR11 := (a10.trans a11).keep _ _ (by omega) hR8
      have hR12 := set_at (x := ⟨Ci n f mq (upd (upd hPlF i (hPlF j)) j (hPlF i)) r, true⟩) hR11 (show h2.length ≠ h.length by omega)
      have hlen := A11.len
      refine ⟨n, f, mq, upd (upd hPlF i (hPlF j)) j (hPlF i), r, (h11.set h2.length ⟨Ci n f mq (upd (upd hPlF i (hPlF j)) j (hPlF i)) r, true⟩).set h.length ⟨Ci n f mq (upd (upd hPlF i (hPlF j)) j (hPlF i)) r, true⟩, ⟨hr0, by omega⟩, (A11.set s (by omega) _).set s (Nat.le_refl _) _, ?_⟩
      (refine AC_begin (fun _ _ => Tryz.call47 _ _) Tryz.func47 rfl Tryz.ntmps47 Tryz.results47 (fun hwf => ?_); simp only [List.length_cons, List.length_nil, Nat.reduceAdd, Nat.reduceSub, List.replicate, List.cons_append, List.nil_append])
      (refine sW (And.intro @hyb (And.intro @hw1 (And.intro @hrs (And.intro @Ci_splice0 (And.intro @Ci_splice1 (And.intro @Ci_splice2 (And.intro @Ci_splice4 (And.intro @Ci_splice_all (And.intro @hR4 (And.intro @hC4 (And.intro @hC5 @hC6))))))))))) (And.intro @c1 (And.intro @c2 (And.intro @c3 (And.intro @houseS_ac (And.intro @c5 (And.intro @c6 @c7)))))) ?_)
      refine WA_forH (fun k => [(4, .int .i64 ((q - k : Nat))), (29, J), (30, J), (31, J), (32, J), (33, J), (34, J), (35, J), (36, J), (37, J), (38, J), (39, J), (40, J), (41, J), (42, J)]) (fun k => (st k).1) (q) ?_ ?_ ?_ <;> (try simp only [patT_cons, patT_nil, patL_cons, patL_nil, list_set_zero, list_set_succ, blk_set_zero, blk_set_succ])
      · have e1 : (st 0).1 = h7 := by rw [e0]
        have l1 := A7.len
        rw [e1]
        (exact sA0)
      · intro k hk
        obtain ⟨i, j, z, M1, M2, M3, hi, hj, hz, d1, d2, d3, j1, e⟩ := hRt k hk
        have l1 := (hI (k + 1) hk).2.2.len
        rw [e] at l1 ⊢
        (repeat (first | ((first | (refine And.intro ?_ ?_; focus exact PLA) | ((first | with_reducible apply callB_i | with_reducible apply callK_intro | with_reducible apply callQ_i); (focus (first | assumption | ((first | with_reducible apply d1 | with_reducible apply d2 | with_reducible apply d3) <;> (first | assumption | rfl | (simp (disch := omega) only [go_sem]; first | done | rfl) | omega | decide | (simp; done))))); (try exact WP_au)) | refine WA_seq (WA_region ?_) | refine WA_region ?_ | refine WA_exit ?_); try simp (maxSteps := 1000000) (disch := first | omega | rfl | decide | (simp only [List.length_cons, List.length_nil, List.length_append, LV] <;> omega)) only [go_sem, Nat.reduceAdd, Int.reduceAdd, Int.reduceSub, Int.reduceMul, Bool.not_true, Bool.not_false, j1, decide_eq_true (show 0 < q - k by omega)]) | (refine (WA_rb (id := 9) [1, 3, 5, 10] (SubM.refl _) mixedOk ?_); simp only [List.size_toArray, List.length_cons, List.length_nil]; (repeat (first | ((first | (refine And.intro ?_ ?_; focus exact PLA) | ((first | with_reducible apply callB_i | with_reducible apply callK_intro | with_reducible apply callQ_i); (focus (first | assumption | ((first | with_reducible apply d1 | with_reducible apply d2 | with_reducible apply d3) <;> (first | assumption | rfl | (simp (disch := omega) only [go_sem]; first | done | rfl) | omega | decide | (simp; done))))); (try exact WP_au)) | refine RB_take false [0, 2, 4, 7] 7 (by rfl) (by kernel_rfl) (by decide) (by decide +kernel) ?_ | refine RB_exec 1 _ (by rfl) (by decide +kernel) (by decide +kernel) ?_ | refine RB_take false [8] 5 (by rfl) (by kernel_rfl) (by decide) (by decide +kernel) ?_ | refine RB_exec 3 _ (by rfl) (by decide +kernel) (by decide +kernel) ?_ | refine RB_exec 5 _ (by rfl) (by decide +kernel) (by decide +kernel) ?_ | refine RB_take false [6, 9] 1 (by rfl) (by kernel_rfl) (by decide) (by decide +kernel) ?_ | refine RB_exec 10 _ (by rfl) (by decide +kernel) (by decide +kernel) ?_ | refine RB_done (by decide +kernel) ?_); try simp (maxSteps := 1000000) (disch := first | omega | rfl | decide | (simp only [List.length_cons, List.length_nil, List.length_append, LV] <;> omega)) only [go_sem, Nat.reduceAdd, Int.reduceAdd, Int.reduceSub, Int.reduceMul, Bool.not_true, Bool.not_false, j1, decide_eq_true (show 0 < q - k by omega)])))) | refine WA_seq ?_ | refine WA_block ?_ | (refine WA_skip ?_; try simp only [go_sem]) | (refine WA_ret ?_; try simp only [go_sem]) | refine WA_ct rfl ?_ | refine WA_cf rfl ?_))
        all_goals (exact sA0)
      · rw [← hMq]
        (repeat (first | ((first | (refine And.intro ?_ ?_; focus exact PLA) | ((first | with_reducible apply callB_i | with_reducible apply callK_intro | with_reducible apply callQ_i); (focus (first | assumption | ((first | with_reducible apply inverseS_ac g0 g1 | with_reducible apply c10 | with_reducible apply c11) <;> (first | assumption | rfl | (simp (disch := omega) only [go_sem]; first | done | rfl) | omega | decide | (simp; done))))); (try exact WP_au)) | refine WA_seq (WA_region ?_) | refine WA_region ?_ | refine WA_exit ?_); try simp (maxSteps := 1000000) (disch := first | omega | rfl | decide | (simp only [List.length_cons, List.length_nil, List.length_append, LV] <;> omega)) only [go_sem, Nat.reduceAdd, Int.reduceAdd, Int.reduceSub, Int.reduceMul, Bool.not_true, Bool.not_false, Ci_splice2, Ci_splice3, Ci_splice_all, f1, hC8, hdet, Bool.not_true, Nat.sub_self, hC11, look_set (blt hC11), List.set_set, hR12]) | refine WA_seq ?_ | refine WA_block ?_ | (refine WA_skip ?_; try simp only [go_sem]) | (refine WA_ret ?_; try simp only [go_sem]) | refine WA_ct rfl ?_ | refine WA_cf rfl ?_))
        refine ret_full (by first | exact .inr rfl | exact .inl rfl) (by simpa using hlen) ?_
        simp (maxSteps := 1000000) (disch := first | omega | rfl | decide | (simp only [List.length_cons, List.length_nil, List.length_append, LV] <;> omega)) only [go_sem, Nat.reduceAdd, Int.reduceAdd, Int.reduceSub, Int.reduceMul, Bool.not_true, Bool.not_false, look_set (blt hR12)]
        try rfl

theorem l04Draw_aft {h : List Blk} {b : Nat} {cv : Value} (s : SrcAt h b cv) :
    ∃ (m : Int) (bx mx pl : Nat → UInt8) (r : Int) (h' : List Blk), (0 ≤ r ∧ r ≤ 1000) ∧ Aft h h' b cv ∧ AC Tryz.prog 47 [pt b 0] h (.agg (Ci m bx mx pl r).toArray) h' := by
  obtain ⟨m, bx, mx, pl, r, h', ⟨hr, _⟩, a, c⟩ := l04DrawB_aft s
  exact ⟨m, bx, mx, pl, r, h', by omega, a, c⟩

end Go.Proofs.YtkdpjkpedklbpaaGreatDoor
/- Powers and orders in a field. Plain. -/
namespace Go.Proofs.YtkdpjkpedklbpaaGreatDoor
set_option linter.unusedSimpArgs false
set_option linter.unusedVariables false
set_option maxRecDepth 20000
set_option maxHeartbeats 1000000
open Go.Abs

def powN (m : Nat) (a : UInt8) : Nat → UInt8
  | 0 => 1
  | n + 1 => tm m (powN m a n) a
section
variable {m : Nat} (h0 : 256 ≤ m) (h1 : m < 512)
include h0 h1
theorem powN_add (a : UInt8) (i : Nat) : ∀ j, powN m a (i + j) = tm m (powN m a i) (powN m a j)
  | 0 => (tm_oneR h0 h1 _).symm
  | j + 1 => by
    show tm m (powN m a (i + j)) a = tm m (powN m a i) (tm m (powN m a j) a)
    rw [powN_add a i j, tm_assoc h0 h1]
theorem powN_mul (a : UInt8) (i : Nat) : ∀ j, powN m a (i * j) = powN m (powN m a i) j
  | 0 => rfl
  | j + 1 => by
    rw [Nat.mul_succ, powN_add h0 h1, powN_mul a i j]; rfl
theorem powN_one : ∀ n, powN m 1 n = 1
  | 0 => rfl
  | n + 1 => by show tm m (powN m 1 n) 1 = 1; rw [powN_one n, tm_one h0 h1]
theorem sqP_pow (a : UInt8) : ∀ i, sqP m a i = powN m a (2 ^ i)
  | 0 => by show a = tm m 1 a; rw [tm_one h0 h1]
  | i + 1 => by
    show tm m (sqP m a i) (sqP m a i) = _
    rw [sqP_pow a i, ← powN_add h0 h1, ← Nat.two_mul, Nat.pow_succ, Nat.mul_comm]
theorem poP_pow (a : UInt8) (e : Nat) : ∀ i, poP m a e i = powN m a (e % 2 ^ i)
  | 0 => by rw [Nat.pow_zero, Nat.mod_one]; rfl
  | i + 1 => by
    have hm : e % 2 ^ (i + 1) = e % 2 ^ i + 2 ^ i * (e / 2 ^ i % 2) := Nat.mod_pow_succ
    cases hb : e.testBit i
    · rw [poP_f hb, poP_pow a e i, hm]
      have : e / 2 ^ i % 2 = 0 := by
        rw [Nat.testBit_eq_decide_div_mod_eq] at hb
        have := of_decide_eq_false hb
        omega
      rw [this, Nat.mul_zero, Nat.add_zero]
    · rw [poP_t hb, poP_pow a e i, sqP_pow h0 h1, hm]
      have : e / 2 ^ i % 2 = 1 := by
        rw [Nat.testBit_eq_decide_div_mod_eq] at hb
        exact of_decide_eq_true hb
      rw [this, Nat.mul_one, powN_add h0 h1]
theorem po_pow (a : UInt8) (e : Nat) : po m a e = powN m a e := by
  unfold po
  rw [poP_pow h0 h1, Nat.mod_eq_of_lt (lt_blen e)]
end

/-- The order of an element, at most 256. -/
def ordN (m : Nat) (a : UInt8) : Nat := 1 + skip (fun k => powN m a k != 1) 255 1
theorem ordN_lt {m : Nat} {a : UInt8} {k : Nat} (hk : 0 < k) (h : k < ordN m a) : powN m a k ≠ 1 := by
  unfold ordN at h
  have := skip_go _ _ (k - 1) (show k - 1 < skip (fun k => powN m a k != 1) 255 1 by omega)
  rw [show 1 + (k - 1) = k by omega] at this
  simpa using this
theorem ordN_pos (m : Nat) (a : UInt8) : 1 ≤ ordN m a := Nat.le_add_right _ _
theorem ordN_le {m : Nat} {a : UInt8} {k : Nat} (hk : 0 < k) (h : powN m a k = 1) : ordN m a ≤ k := by
  rcases Nat.lt_or_ge k (ordN m a) with h2 | h2
  · exact absurd h (ordN_lt hk h2)
  · exact h2
theorem ordN_is {m : Nat} {a : UInt8} (h : powN m a 255 = 1) : powN m a (ordN m a) = 1 := by
  have hl := ordN_le (by omega) h
  unfold ordN at *
  have := skip_end (p := fun k => powN m a k != 1) 255 1 (by omega)
  simpa using this
theorem ordN_dvd {m : Nat} (h0 : 256 ≤ m) (h1 : m < 512) {a : UInt8} {k : Nat} (h : powN m a 255 = 1) (hk : powN m a k = 1) : k % ordN m a = 0 := by
  have hp := ordN_pos m a
  have ho := ordN_is h
  rcases Nat.eq_zero_or_pos (k % ordN m a) with h2 | h2
  · exact h2
  · refine absurd ?_ (ordN_lt h2 (Nat.mod_lt k hp))
    have e := Nat.div_add_mod k (ordN m a)
    rw [← e, powN_add h0 h1, powN_mul h0 h1, ho, powN_one h0 h1, tm_one h0 h1] at hk
    exact hk

def chkG (m g : Nat) : Bool := po m (UInt8.ofNat g) 255 == 1 && (po m (UInt8.ofNat g) 85 != 1 && (po m (UInt8.ofNat g) 51 != 1 && po m (UInt8.ofNat g) 15 != 1))
def findG (m : Nat) : Nat → Nat → Nat
  | 0, g => g
  | f + 1, g => if chkG m g then g else findG m f (g + 1)
theorem gen_all : ∀ i, i < 256 → fieldB (i + 256) = true → 2 ≤ findG (i + 256) 100 2 ∧ findG (i + 256) 100 2 < 256 ∧ chkG (i + 256) (findG (i + 256) 100 2) = true := by decide +kernel
theorem dvd255 : ∀ d, d < 255 → 0 < d → 255 % d = 0 → 85 % d = 0 ∨ 51 % d = 0 ∨ 15 % d = 0 := by decide +kernel
theorem gen_ex {m : Nat} (h0 : 256 ≤ m) (h1 : m < 512) (hf : fieldB m = true) : ∃ g, 2 ≤ g ∧ g < 256 ∧ powN m (UInt8.ofNat g) 255 = 1 ∧ ordN m (UInt8.ofNat g) = 255 := by
  have := gen_all (m - 256) (by omega) (by rw [show m - 256 + 256 = m by omega]; exact hf)
  rw [show m - 256 + 256 = m by omega] at this
  obtain ⟨a1, a2, a3⟩ := this
  generalize findG m 100 2 = g at *
  unfold chkG at a3
  simp only [Bool.and_eq_true, beq_iff_eq, bne_iff_ne, po_pow h0 h1] at a3
  obtain ⟨b1, b2, b3, b4⟩ := a3
  refine ⟨g, a1, a2, b1, ?_⟩
  have hl := ordN_le (by omega) b1
  have hp := ordN_pos m (UInt8.ofNat g)
  have hd := ordN_dvd h0 h1 b1 b1
  have ho := ordN_is b1
  rcases Nat.lt_or_ge (ordN m (UInt8.ofNat g)) 255 with h | h
  · have key : ∀ k, k % ordN m (UInt8.ofNat g) = 0 → powN m (UInt8.ofNat g) k = 1 := fun k hk => by
      have e := Nat.div_add_mod k (ordN m (UInt8.ofNat g))
      rw [hk, Nat.add_zero] at e
      rw [← e, powN_mul h0 h1, ho, powN_one h0 h1]
    rcases dvd255 _ h hp hd with h2 | h2 | h2
    · exact absurd (key _ h2) b2
    · exact absurd (key _ h2) b3
    · exact absurd (key _ h2) b4
  · omega
theorem tm_zeroL (m : Nat) {a : UInt8} (h0 : 256 ≤ m) (h1 : m < 512) : tm m 0 a = 0 := by rw [tm_comm h0 h1]; exact tm_zeroR m a
/-- Fermat's law. -/
theorem pow255 {m : Nat} (h0 : 256 ≤ m) (h1 : m < 512) (hf : fieldB m = true) {a : UInt8} (ha : a ≠ 0) : powN m a 255 = 1 := by
  obtain ⟨g, _, _, hg, ho⟩ := gen_ex h0 h1 hf
  generalize UInt8.ofNat g = w at *
  have nz : ∀ i, i ≤ 255 → powN m w i ≠ 0 := fun i hi e => by
    have : powN m w (i + (255 - i)) = 0 := by rw [powN_add h0 h1, e, tm_zeroL m h0 h1]
    rw [show i + (255 - i) = 255 by omega, hg] at this
    exact absurd this (by decide)
  have inj : ∀ i j, i < 255 → j < 255 → i < j → powN m w i ≠ powN m w j := fun i j hi hj hij e => by
    have h2 : powN m w (i + (255 - i)) = powN m w (j + (255 - i)) := by rw [powN_add h0 h1, e, ← powN_add h0 h1]
    rw [show i + (255 - i) = 255 by omega, show j + (255 - i) = (j - i) + 255 by omega, powN_add h0 h1 w (j - i) 255, hg, tm_oneR h0 h1] at h2
    exact ordN_lt (show 0 < j - i by omega) (by rw [ho]; omega) h2.symm
  have hpos : ∀ x : UInt8, x ≠ 0 → 0 < x.toNat := fun x hx => Nat.pos_of_ne_zero fun e => hx (UInt8.toNat.inj e)
  obtain ⟨i, hi, e⟩ := inj_surj 255 (fun i => (powN m w i).toNat - 1)
    (fun i hi => by have h2 := u8_lt (powN m w i); have h3 := hpos _ (nz i (by omega)); show (powN m w i).toNat - 1 < 255; omega)
    (fun i j hi hj e => by
      have e' : (powN m w i).toNat - 1 = (powN m w j).toNat - 1 := e
      have h3 := hpos _ (nz i (by omega))
      have h4 := hpos _ (nz j (by omega))
      have h5 : powN m w i = powN m w j := UInt8.toNat.inj (by omega)
      rcases Nat.lt_trichotomy i j with h | h | h
      · exact absurd h5 (inj i j hi hj h)
      · exact h
      · exact absurd h5.symm (inj j i hj hi h))
    (a.toNat - 1) (by have := u8_lt a; have := hpos a ha; omega)
  have e' : (powN m w i).toNat - 1 = a.toNat - 1 := e
  have h3 := hpos _ (nz i (by omega))
  have h4 := hpos a ha
  have h5 : powN m w i = a := UInt8.toNat.inj (by omega)
  rw [← h5, ← powN_mul h0 h1, Nat.mul_comm, powN_mul h0 h1, hg, powN_one h0 h1]
theorem tm_inv {m : Nat} (h0 : 256 ≤ m) (h1 : m < 512) (hf : fieldB m = true) {a : UInt8} (ha : a ≠ 0) : tm m a (inv m a) = 1 := by
  unfold inv
  rw [po_pow h0 h1, tm_comm h0 h1]
  exact pow255 h0 h1 hf ha
end Go.Proofs.YtkdpjkpedklbpaaGreatDoor
/- What the laws of functions share: draws told with memory opaque. -/
namespace Go.Proofs.YtkdpjkpedklbpaaGreatDoor
set_option linter.unusedSimpArgs false
set_option linter.unusedVariables false
set_option maxRecDepth 20000
set_option maxHeartbeats 1000000
open Go.Abs

theorem WA_midH {P : Program} {n0 : Nat} {x y : Code} {Q Q' : Exit → AS → Prop} {t : List Value} {H : List Blk} (ps : List (Nat × Value))
    (h : WA P n0 x (Then (fun s' => Drop n0 s' ⟨patT t ps, H⟩) Q') ⟨t, H⟩) (h2 : WA P n0 y Q ⟨patT t ps, H⟩) : WA P n0 x (Then (WA P n0 y Q) Q') ⟨t, H⟩ := WA_mid _ h h2
theorem app_app {h H L : List Blk} (e : ∃ A, H = h ++ A) : ∃ A, H ++ L = h ++ A := by
  obtain ⟨A, rfl⟩ := e
  exact ⟨A ++ L, List.append_assoc ..⟩
theorem app_len {h H : List Blk} (e : ∃ A, H = h ++ A) : h.length ≤ H.length := by
  obtain ⟨A, rfl⟩ := e
  simp
theorem big_ac {h : List Blk} {cv : Value} (c : Cv h cv) : AC Tryz.prog 4 [cv] h (.bool false) h := by
  cases c with
  | nil =>
    (refine AC_begin (fun _ _ => Tryz.call4 _ _) Tryz.func4 rfl Tryz.ntmps4 Tryz.results4 (fun hwf => ?_); simp only [List.length_cons, List.length_nil, Nat.reduceAdd, Nat.reduceSub, List.replicate, List.cons_append, List.nil_append])
    (refine sN0 ?_)
    (exact sR0)
  | @sl bc n f rc hb hn =>
    (refine AC_begin (fun _ _ => Tryz.call4 _ _) Tryz.func4 rfl Tryz.ntmps4 Tryz.results4 (fun hwf => ?_); simp only [List.length_cons, List.length_nil, Nat.reduceAdd, Nat.reduceSub, List.replicate, List.cons_append, List.nil_append])
    (refine sN (show decide (4096 < n) = false from decide_eq_false (by omega)) ?_)
    (exact sR0)
theorem big_long {b n : Nat} (hn : 4096 < n) (hn2 : n ≤ 9223372036854775807) (h : List Blk) : AC Tryz.prog 4 [sl b 0 n 1] h (.bool true) h := by
  (refine AC_begin (fun _ _ => Tryz.call4 _ _) Tryz.func4 rfl Tryz.ntmps4 Tryz.results4 (fun hwf => ?_); simp only [List.length_cons, List.length_nil, Nat.reduceAdd, Nat.reduceSub, List.replicate, List.cons_append, List.nil_append])
  (refine sN (show decide (4096 < n) = true from decide_eq_true hn) ?_)
  (exact sR0)

end Go.Proofs.YtkdpjkpedklbpaaGreatDoor
/- Opaque memory that is longer. -/
namespace Go.Proofs.YtkdpjkpedklbpaaGreatDoor
set_option linter.unusedSimpArgs false
set_option linter.unusedVariables false
set_option maxRecDepth 20000
set_option maxHeartbeats 1000000
open Go.Abs

theorem setX {h h3 : List Blk} (e : ∃ L, h3 = h ++ L) {i : Nat} (hi : h.length ≤ i) (x : Blk) : ∃ L, h3.set i x = h ++ L := by
  obtain ⟨L, rfl⟩ := e
  exact app_set' hi x
theorem app_more {h h1 : List Blk} {x : List Blk} (e : ∃ L, h1 = h ++ x ++ L) : ∃ L, h1 = h ++ L := by
  obtain ⟨L, rfl⟩ := e
  exact ⟨_, List.append_assoc ..⟩
theorem cv_app {h H : List Blk} {cv : Value} (c : Cv h cv) (e : ∃ L, H = h ++ L) : Cv H cv := by
  obtain ⟨L, rfl⟩ := e
  exact c.app L
end Go.Proofs.YtkdpjkpedklbpaaGreatDoor
