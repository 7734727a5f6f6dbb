/- A part of the proof of FnTrails. -/
import Derived.Test.YtenkjbkcdcionaaGreatQTLH
import Derived.Test.YtenkjbkcdcionaaGreatQTL0
import Derived.Test.YtenkjbkcdcionaaGreatQTL1
/- Draws: numbers that follow from a code. -/
namespace Go.Proofs.YtenkjbkcdcionaaGreat
set_option linter.unusedSimpArgs false
set_option linter.unusedVariables false
set_option maxRecDepth 20000
set_option maxHeartbeats 1000000
open Go.Abs

inductive Cd (h : List Blk) (b : Nat) : Value → Nat → (Nat → UInt8) → Prop
  | nil (f : Nat → UInt8) : Cd h b (.slice none 0 0) 0 f
  | sl (f : Nat → UInt8) {bc n : Nat} {rc : Bool} (hb : h[bc]? = some ⟨Bs n f, rc⟩) (hne : bc ≠ b) : Cd h b (sl bc 0 n 1) n f
theorem Cd.set {h : List Blk} {b n : Nat} {cv : Value} {f : Nat → UInt8} (c : Cd h b cv n f) (x : Blk) : Cd (h.set b x) b cv n f := by
  cases c with
  | nil => exact .nil f
  | sl _ hb hne => exact .sl f (set_at hb hne.symm) hne
theorem Cd.app {h : List Blk} {b n : Nat} {cv : Value} {f : Nat → UInt8} (c : Cd h b cv n f) (L : List Blk) : Cd (h ++ L) b cv n f := by
  cases c with
  | nil => exact .nil f
  | sl _ hb hne => exact .sl f (look_old hb L) hne
def Src (h : List Blk) (b : Nat) (cv : Value) (k : Blk) : Prop := ∃ (at' : Nat) (hs : Int) (n : Nat) (f : Nat → UInt8), k = ⟨Sr cv at' hs, true⟩ ∧ at' ≤ n ∧ n ≤ 4096 ∧ Cd h b cv n f
theorem Src.set {h : List Blk} {b : Nat} {cv : Value} {k : Blk} (s : Src h b cv k) (x : Blk) : Src (h.set b x) b cv k := by
  obtain ⟨a, hs, n, f, e, h1, h2, c⟩ := s
  exact ⟨a, hs, n, f, e, h1, h2, c.set x⟩
theorem Src.app {h : List Blk} {b : Nat} {cv : Value} {k : Blk} (s : Src h b cv k) (L : List Blk) : Src (h ++ L) b cv k := by
  obtain ⟨a, hs, n, f, e, h1, h2, c⟩ := s
  exact ⟨a, hs, n, f, e, h1, h2, c.app L⟩
theorem set_app {h : List Blk} {b : Nat} (hb : b < h.length) (x : Blk) (L : List Blk) : (h ++ L).set b x = h.set b x ++ L := List.set_append_left _ _ hb

def nxH (hs : Int) : Int := IntKind.u64.wrap (IntKind.u64.wrap (hs * 6364136223846793005) + 1442695040888963407)
theorem and24 (x : Int) : ∃ q : Nat, q < 16777216 ∧ bits .and .u64 x 16777215 = ((q : Nat) : Int) := by
  refine ⟨((BitVec.ofInt 64 x) &&& (BitVec.ofInt 64 16777215)).toNat, ?_, ?_⟩
  · rw [BitVec.toNat_and]
    have : (BitVec.ofInt 64 16777215).toNat = 16777215 := by decide
    rw [this]
    exact Nat.lt_of_le_of_lt Nat.and_le_right (by omega)
  · show IntKind.u64.wrap ((((BitVec.ofInt 64 x) &&& (BitVec.ofInt 64 16777215)).toNat : Nat) : Int) = _
    have h1 : ((BitVec.ofInt 64 x) &&& (BitVec.ofInt 64 16777215)).toNat < 2 ^ 64 := BitVec.isLt _
    exact wrap_u64 (by omega) (by omega)
theorem next_ex {h : List Blk} {b : Nat} {cv : Value} {k : Blk} (hb : h[b]? = some k) (hk : Src h b cv k) {N : Nat} (hN : 0 < N) (hN2 : N ≤ 1125899906842624) :
    ∃ (x : Nat) (k' : Blk), x < N ∧ Src h b cv k' ∧ AC Tryz.prog 26 [pt b 0, .int .i64 N] h (.int .i64 x) (h.set b k') := by
  obtain ⟨a, hs, n, f, rfl, h1, h2, c⟩ := hk
  have hbl := blt hb
  obtain ⟨q, hq, e⟩ := and24 ((nxH hs).fdiv (2 ^ (min 33 64)))
  cases c with
  | nil =>
    refine ⟨q % N, ⟨Sr (.slice none 0 0) a (nxH hs), true⟩, Nat.mod_lt _ hN, ⟨a, _, 0, f, rfl, h1, h2, .nil f⟩, ?_⟩
    have hz : decide (N < 1) = false := decide_eq_false (by omega)
    have ha : decide (a < 0) = false := decide_eq_false (by omega)
    (refine AC_begin (fun _ _ => Tryz.call26 _ _) Tryz.func26 rfl Tryz.ntmps26 Tryz.results26 (fun hwf => ?_); simp only [LCN, Nat.reduceAdd, Nat.reduceSub, List.replicate])
    (repeat (first | ((first | (refine And.intro ?_ ?_; focus exact PLA) | refine WA_seq (WA_region ?_) | refine WA_region ?_ | refine WA_exit ?_); try simp (maxSteps := 1000000) (disch := first | omega | rfl | decide | (simp only [LX] <;> omega)) only [go_sem, Nat.reduceAdd, Int.reduceAdd, Int.reduceSub, Int.reduceMul, BNS, hb, look_set hbl, List.set_set, hz, ha, show IntKind.u64.wrap (IntKind.u64.wrap (hs * 6364136223846793005) + 1442695040888963407) = nxH hs from rfl, e]) | (refine WA_seq (WA_draw (id := 5) mixedOk (by kernel_rfl) ?_); simp (maxSteps := 1000000) (disch := first | omega | rfl | decide | (simp only [LX] <;> omega)) only [go_sem, Nat.reduceAdd, Int.reduceAdd, Int.reduceSub, Int.reduceMul, BNS, hb, look_set hbl, List.set_set, hz, ha, show IntKind.u64.wrap (IntKind.u64.wrap (hs * 6364136223846793005) + 1442695040888963407) = nxH hs from rfl, e]) | (refine WA_draw (id := 5) mixedOk (by kernel_rfl) ?_; simp (maxSteps := 1000000) (disch := first | omega | rfl | decide | (simp only [LX] <;> omega)) only [go_sem, Nat.reduceAdd, Int.reduceAdd, Int.reduceSub, Int.reduceMul, BNS, hb, look_set hbl, List.set_set, hz, ha, show IntKind.u64.wrap (IntKind.u64.wrap (hs * 6364136223846793005) + 1442695040888963407) = nxH hs from rfl, e]) | (refine WA_seq (WA_draw (id := 6) mixedOk (by kernel_rfl) ?_); simp (maxSteps := 1000000) (disch := first | omega | rfl | decide | (simp only [LX] <;> omega)) only [go_sem, Nat.reduceAdd, Int.reduceAdd, Int.reduceSub, Int.reduceMul, BNS, hb, look_set hbl, List.set_set, hz, ha, show IntKind.u64.wrap (IntKind.u64.wrap (hs * 6364136223846793005) + 1442695040888963407) = nxH hs from rfl, e]) | (refine WA_draw (id := 6) mixedOk (by kernel_rfl) ?_; simp (maxSteps := 1000000) (disch := first | omega | rfl | decide | (simp only [LX] <;> omega)) only [go_sem, Nat.reduceAdd, Int.reduceAdd, Int.reduceSub, Int.reduceMul, BNS, hb, look_set hbl, List.set_set, hz, ha, show IntKind.u64.wrap (IntKind.u64.wrap (hs * 6364136223846793005) + 1442695040888963407) = nxH hs from rfl, e]) | refine WA_seq ?_ | refine WA_block ?_ | (refine WA_skip ?_; try simp only [go_sem]) | (refine WA_ret ?_; try simp only [go_sem]) | refine WA_ct rfl ?_ | refine WA_cf rfl ?_))
    (exact sR0)
  | sl _ hc hne =>
    have hc2 := fun (x : Blk) => set_at (x := x) hc hne.symm
    have hz : decide (N < 1) = false := decide_eq_false (by omega)
    by_cases ha : a < n
    · have hf := u8_lt (f a)
      refine ⟨(q + (f a).toNat) % N, ⟨Sr _ ((a + 1 : Nat) : Int) (nxH hs), true⟩, Nat.mod_lt _ hN, ⟨a + 1, _, n, f, rfl, by omega, h2, .sl f hc hne⟩, ?_⟩
      (refine AC_begin (fun _ _ => Tryz.call26 _ _) Tryz.func26 rfl Tryz.ntmps26 Tryz.results26 (fun hwf => ?_); simp only [LCN, Nat.reduceAdd, Nat.reduceSub, List.replicate])
      (repeat (first | ((first | (refine And.intro ?_ ?_; focus exact PLA) | refine WA_seq (WA_region ?_) | refine WA_region ?_ | refine WA_exit ?_); try simp (maxSteps := 1000000) (disch := first | omega | rfl | decide | (simp only [LX] <;> omega)) only [go_sem, Nat.reduceAdd, Int.reduceAdd, Int.reduceSub, Int.reduceMul, BNS, hb, look_set hbl, List.set_set, hc2, hz, decide_eq_true ha, show IntKind.u64.wrap (IntKind.u64.wrap (hs * 6364136223846793005) + 1442695040888963407) = nxH hs from rfl, e]) | (refine WA_seq (WA_draw (id := 5) mixedOk (by kernel_rfl) ?_); simp (maxSteps := 1000000) (disch := first | omega | rfl | decide | (simp only [LX] <;> omega)) only [go_sem, Nat.reduceAdd, Int.reduceAdd, Int.reduceSub, Int.reduceMul, BNS, hb, look_set hbl, List.set_set, hc2, hz, decide_eq_true ha, show IntKind.u64.wrap (IntKind.u64.wrap (hs * 6364136223846793005) + 1442695040888963407) = nxH hs from rfl, e]) | (refine WA_draw (id := 5) mixedOk (by kernel_rfl) ?_; simp (maxSteps := 1000000) (disch := first | omega | rfl | decide | (simp only [LX] <;> omega)) only [go_sem, Nat.reduceAdd, Int.reduceAdd, Int.reduceSub, Int.reduceMul, BNS, hb, look_set hbl, List.set_set, hc2, hz, decide_eq_true ha, show IntKind.u64.wrap (IntKind.u64.wrap (hs * 6364136223846793005) + 1442695040888963407) = nxH hs from rfl, e]) | (refine WA_seq (WA_draw (id := 6) mixedOk (by kernel_rfl) ?_); simp (maxSteps := 1000000) (disch := first | omega | rfl | decide | (simp only [LX] <;> omega)) only [go_sem, Nat.reduceAdd, Int.reduceAdd, Int.reduceSub, Int.reduceMul, BNS, hb, look_set hbl, List.set_set, hc2, hz, decide_eq_true ha, show IntKind.u64.wrap (IntKind.u64.wrap (hs * 6364136223846793005) + 1442695040888963407) = nxH hs from rfl, e]) | (refine WA_draw (id := 6) mixedOk (by kernel_rfl) ?_; simp (maxSteps := 1000000) (disch := first | omega | rfl | decide | (simp only [LX] <;> omega)) only [go_sem, Nat.reduceAdd, Int.reduceAdd, Int.reduceSub, Int.reduceMul, BNS, hb, look_set hbl, List.set_set, hc2, hz, decide_eq_true ha, show IntKind.u64.wrap (IntKind.u64.wrap (hs * 6364136223846793005) + 1442695040888963407) = nxH hs from rfl, e]) | refine WA_seq ?_ | refine WA_block ?_ | (refine WA_skip ?_; try simp only [go_sem]) | (refine WA_ret ?_; try simp only [go_sem]) | refine WA_ct rfl ?_ | refine WA_cf rfl ?_))
      (exact sR0)
    · refine ⟨q % N, ⟨Sr _ a (nxH hs), true⟩, Nat.mod_lt _ hN, ⟨a, _, n, f, rfl, h1, h2, .sl f hc hne⟩, ?_⟩
      (refine AC_begin (fun _ _ => Tryz.call26 _ _) Tryz.func26 rfl Tryz.ntmps26 Tryz.results26 (fun hwf => ?_); simp only [LCN, Nat.reduceAdd, Nat.reduceSub, List.replicate])
      (repeat (first | ((first | (refine And.intro ?_ ?_; focus exact PLA) | refine WA_seq (WA_region ?_) | refine WA_region ?_ | refine WA_exit ?_); try simp (maxSteps := 1000000) (disch := first | omega | rfl | decide | (simp only [LX] <;> omega)) only [go_sem, Nat.reduceAdd, Int.reduceAdd, Int.reduceSub, Int.reduceMul, BNS, hb, look_set hbl, List.set_set, hz, decide_eq_false ha, show IntKind.u64.wrap (IntKind.u64.wrap (hs * 6364136223846793005) + 1442695040888963407) = nxH hs from rfl, e]) | (refine WA_seq (WA_draw (id := 5) mixedOk (by kernel_rfl) ?_); simp (maxSteps := 1000000) (disch := first | omega | rfl | decide | (simp only [LX] <;> omega)) only [go_sem, Nat.reduceAdd, Int.reduceAdd, Int.reduceSub, Int.reduceMul, BNS, hb, look_set hbl, List.set_set, hz, decide_eq_false ha, show IntKind.u64.wrap (IntKind.u64.wrap (hs * 6364136223846793005) + 1442695040888963407) = nxH hs from rfl, e]) | (refine WA_draw (id := 5) mixedOk (by kernel_rfl) ?_; simp (maxSteps := 1000000) (disch := first | omega | rfl | decide | (simp only [LX] <;> omega)) only [go_sem, Nat.reduceAdd, Int.reduceAdd, Int.reduceSub, Int.reduceMul, BNS, hb, look_set hbl, List.set_set, hz, decide_eq_false ha, show IntKind.u64.wrap (IntKind.u64.wrap (hs * 6364136223846793005) + 1442695040888963407) = nxH hs from rfl, e]) | (refine WA_seq (WA_draw (id := 6) mixedOk (by kernel_rfl) ?_); simp (maxSteps := 1000000) (disch := first | omega | rfl | decide | (simp only [LX] <;> omega)) only [go_sem, Nat.reduceAdd, Int.reduceAdd, Int.reduceSub, Int.reduceMul, BNS, hb, look_set hbl, List.set_set, hz, decide_eq_false ha, show IntKind.u64.wrap (IntKind.u64.wrap (hs * 6364136223846793005) + 1442695040888963407) = nxH hs from rfl, e]) | (refine WA_draw (id := 6) mixedOk (by kernel_rfl) ?_; simp (maxSteps := 1000000) (disch := first | omega | rfl | decide | (simp only [LX] <;> omega)) only [go_sem, Nat.reduceAdd, Int.reduceAdd, Int.reduceSub, Int.reduceMul, BNS, hb, look_set hbl, List.set_set, hz, decide_eq_false ha, show IntKind.u64.wrap (IntKind.u64.wrap (hs * 6364136223846793005) + 1442695040888963407) = nxH hs from rfl, e]) | refine WA_seq ?_ | refine WA_block ?_ | (refine WA_skip ?_; try simp only [go_sem]) | (refine WA_ret ?_; try simp only [go_sem]) | refine WA_ct rfl ?_ | refine WA_cf rfl ?_))
      (exact sR0)

end Go.Proofs.YtenkjbkcdcionaaGreat
/- Draws of fields, bytes and numbers. -/
namespace Go.Proofs.YtenkjbkcdcionaaGreat
set_option linter.unusedSimpArgs false
set_option linter.unusedVariables false
set_option maxRecDepth 20000
set_option maxHeartbeats 1000000
open Go.Abs

def SrcAt (h : List Blk) (b : Nat) (cv : Value) : Prop := ∃ k, h[b]? = some k ∧ Src h b cv k
structure Aft (h h' : List Blk) (b : Nat) (cv : Value) : Prop where
  src : SrcAt h' b cv
  keep : ∀ (i : Nat) (x : Blk), i ≠ b → h[i]? = some x → h'[i]? = some x
  app : ∀ h0 : List Blk, h0.length ≤ b → (∃ L, h = h0 ++ L) → ∃ L, h' = h0 ++ L
  len : h.length ≤ h'.length
theorem SrcAt.lt {h : List Blk} {b : Nat} {cv : Value} (s : SrcAt h b cv) : b < h.length := by obtain ⟨k, hb, _⟩ := s; exact blt hb
theorem SrcAt.more {h : List Blk} {b : Nat} {cv : Value} (s : SrcAt h b cv) (L : List Blk) : Aft h (h ++ L) b cv := by
  obtain ⟨k, hb, hk⟩ := s
  exact ⟨⟨k, look_old hb L, hk.app L⟩, fun _ _ _ hx => look_old hx L, fun h0 _ ⟨A, e⟩ => ⟨A ++ L, by rw [e, List.append_assoc]⟩, by simp⟩
theorem Aft.trans {h h' h'' : List Blk} {b : Nat} {cv : Value} (x : Aft h h' b cv) (y : Aft h' h'' b cv) : Aft h h'' b cv :=
  ⟨y.src, fun i k hi hx => y.keep i k hi (x.keep i k hi hx), fun h0 hl e => y.app h0 hl (x.app h0 hl e), Nat.le_trans x.len y.len⟩
theorem app_set' {h0 L : List Blk} {i : Nat} (hi : h0.length ≤ i) (x : Blk) : ∃ L', (h0 ++ L).set i x = h0 ++ L' := ⟨L.set (i - h0.length) x, List.set_append_right _ _ hi⟩
theorem aft_set {h : List Blk} {b : Nat} {cv : Value} {k : Blk} (hl : b < h.length) (hk : Src h b cv k) : Aft h (h.set b k) b cv :=
  ⟨⟨k, look_set hl, hk.set k⟩, fun i x hi hx => set_at hx hi.symm, fun h0 hb ⟨L, e⟩ => by subst e; exact app_set' hb k, by simp⟩
def isI : Value → Bool
  | .int .i64 _ => true
  | _ => false
theorem ints_at : ∀ {cs : List Value} {n : Nat}, cs.all isI = true → n ≤ cs.length → ∀ i, i < n → ∃ v, cs[i]? = some (.int .i64 v)
  | [], n, _, h, i, hi => absurd h (by simp; omega)
  | c :: cs, n, h, hl, i, hi => by
    rw [List.all_cons, Bool.and_eq_true] at h
    cases i with
    | zero =>
      cases c with
      | int k v => cases k <;> first | exact ⟨v, rfl⟩ | exact absurd h.1 (by simp [isI])
      | _ => exact absurd h.1 (by simp [isI])
    | succ i => exact ints_at (cs := cs) (n := n - 1) h.2 (by simp at hl; omega) i (by omega)
theorem next_aft {h : List Blk} {b : Nat} {cv : Value} (s : SrcAt h b cv) {N : Nat} (hN : 0 < N) (hN2 : N ≤ 1125899906842624) :
    ∃ (x : Nat) (h' : List Blk), x < N ∧ Aft h h' b cv ∧ AC Tryz.prog 26 [pt b 0, .int .i64 N] h (.int .i64 x) h' := by
  obtain ⟨k, hb, hk⟩ := s
  obtain ⟨x, k', hx, hk', hc⟩ := next_ex hb hk hN hN2
  exact ⟨x, _, hx, aft_set (blt hb) hk', hc⟩

theorem pick_aft {h : List Blk} {b : Nat} {cv : Value} (s : SrcAt h b cv) {bl n : Nat} {cs : List Value} {r : Bool} (hl : h[bl]? = some ⟨cs, r⟩) (hne : bl ≠ b) (hn : 0 < n) (hn2 : n ≤ 1000) (hcs : ∀ i, i < n → ∃ v, cs[i]? = some (.int .i64 v)) :
    ∃ (v : Int) (h' : List Blk), (∃ i, i < n ∧ cs[i]? = some (.int .i64 v)) ∧ Aft h h' b cv ∧ AC Tryz.prog 35 [pt b 0, sl bl 0 n 1] h (.int .i64 v) h' := by
  obtain ⟨x, h1, hx, a1, c1⟩ := next_aft s hn (by omega)
  obtain ⟨v, hv⟩ := hcs x hx
  have hl1 := a1.keep _ _ hne hl
  refine ⟨v, h1, ⟨x, hx, hv⟩, a1, ?_⟩
  have hlen := a1.len
  (refine AC_begin (fun _ _ => Tryz.call35 _ _) Tryz.func35 rfl Tryz.ntmps35 Tryz.results35 (fun hwf => ?_); simp only [LCN, Nat.reduceAdd, Nat.reduceSub, List.replicate])
  (refine sW (And.intro @hl1 @hv) @c1 ?_)
  refine ret_full (by first | exact .inr rfl | exact .inl rfl) hlen ?_
  simp (maxSteps := 1000000) (disch := first | omega | rfl | decide | (simp only [LX] <;> omega)) only [go_sem, Nat.reduceAdd, Int.reduceAdd, Int.reduceSub, Int.reduceMul, BNS]
  try rfl

theorem pickL_aft {h : List Blk} {b : Nat} {cv : Value} (s : SrcAt h b cv) (cs : List Value) {n : Nat} (hi : cs.all isI = true) (hcl : cs.length = n) (hn : 0 < n) (hn2 : n ≤ 1000) :
    ∃ (v : Int) (h' : List Blk), (∃ i, i < n ∧ cs[i]? = some (.int .i64 v)) ∧ Aft h h' b cv ∧ AC Tryz.prog 35 [pt b 0, sl h.length 0 n 1] (h ++ [⟨cs, true⟩]) (.int .i64 v) h' := by
  have a0 := s.more [⟨cs, true⟩]
  obtain ⟨v, h', e, a1, c⟩ := pick_aft a0.src (bl := h.length) (n := n) (cs := cs) (r := true) (by simp) (by have := s.lt; omega) hn hn2 (ints_at hi (by omega))
  exact ⟨v, h', e, a0.trans a1, c⟩

def fl : Nat → List Int
  | 0 => []
  | k + 1 => if fieldB (256 + k) then fl k ++ [((256 + k : Nat) : Int)] else fl k
theorem fl_t {k : Nat} (h : fieldB (256 + k) = true) : fl (k + 1) = fl k ++ [((256 + k : Nat) : Int)] := by rw [fl, if_pos h]
theorem fl_f {k : Nat} (h : fieldB (256 + k) = false) : fl (k + 1) = fl k := by rw [fl, h]; rfl
theorem fl_le : ∀ k, (fl k).length ≤ k
  | 0 => Nat.le_refl 0
  | k + 1 => by have := fl_le k; unfold fl; split <;> simp <;> omega
def FL : List Int := fl 256
theorem FL_pos : 0 < FL.length := by decide +kernel
theorem FL_le : FL.length ≤ 256 := fl_le 256
theorem FL_eq : fl 256 = FL := rfl
attribute [irreducible] FL
theorem Il_snoc (l : List Int) (x : Int) : Il l ++ [.int .i64 x] = Il (l ++ [x]) := by unfold Il; rw [List.map_append]; rfl
theorem Il_isI (l : List Int) : (Il l).all isI = true := by
  unfold Il; rw [List.all_map, List.all_eq_true]; intro x _; rfl
theorem fieldsS_ac (h : List Blk) : AC Tryz.prog 120 [] h (sl h.length 0 FL.length 1) (h ++ [⟨Il FL, true⟩]) := by
  rw [← FL_eq]
  (refine AC_begin (fun _ _ => Tryz.call120 _ _) Tryz.func120 rfl Tryz.ntmps120 Tryz.results120 (fun hwf => ?_); simp only [LCN, Nat.reduceAdd, Nat.reduceSub, List.replicate])
  (refine sN0 ?_)
  refine WA_forP (fun k => [(1, sl h.length 0 (fl k).length 1), (2, .int .i64 ((256 + k : Nat) : Int)), (3, J), (4, J), (5, J), (6, J), (7, J), (8, J), (9, J), (10, J), (11, J), (12, J), (13, J)]) (fun k => [(0, ⟨Il (fl k), true⟩)]) (256) ?_ ?_ ?_ <;> (try simp only [PTS])
  · (exact sS (show (fl 0).length = 0 from rfl))
  · intro k hk
    have hle := fl_le k
    cases hf : fieldB (256 + k)
    · (refine sW (And.intro @Int.toNat_natCast @hf) @fieldS_ac ?_)
      rw [fl_f hf]
      (exact sS @Nat.add_assoc)
    · (refine sW (And.intro @Int.toNat_natCast (And.intro @hf (And.intro @lit1I (And.intro @sub1 @Il_snoc)))) @fieldS_ac ?_)
      rw [fl_t hf, List.length_append]
      (exact gCE @Nat.add_assoc [2])
  · (refine sN0 ?_)
    (exact sR0)

theorem drawByte_aft {h : List Blk} {b : Nat} {cv : Value} (s : SrcAt h b cv) :
    ∃ (v : UInt8) (h' : List Blk), Aft h h' b cv ∧ AC Tryz.prog 107 [pt b 0] h (B v) h' := by
  obtain ⟨x1, h1, _, a1, c1⟩ := next_aft s (N := 4) (by omega) (by omega)
  obtain ⟨x2, h2, _, a2, c2⟩ := next_aft a1.src (N := 256) (by omega) (by omega)
  obtain ⟨x3, h3, _, a3, c3⟩ := next_aft a2.src (N := 256) (by omega) (by omega)
  obtain ⟨v, h4, _, a4, c4⟩ := pickL_aft a3.src [.int .i64 x1, .int .i64 x2, .int .i64 x3, .int .i64 255] (n := 4) rfl rfl (by omega) (by omega)
  have hA := ((a1.trans a2).trans a3).trans a4
  refine ⟨toB v, h4, hA, ?_⟩
  have hlen := hA.len
  (refine AC_begin (fun _ _ => Tryz.call107 _ _) Tryz.func107 rfl Tryz.ntmps107 Tryz.results107 (fun hwf => ?_); simp only [LCN, Nat.reduceAdd, Nat.reduceSub, List.replicate])
  (refine sW0 (And.intro @c1 (And.intro @c2 (And.intro @c3 @c4))) ?_)
  refine ret_full (by first | exact .inr rfl | exact .inl rfl) hlen ?_
  simp (maxSteps := 1000000) (disch := first | omega | rfl | decide | (simp only [LX] <;> omega)) only [go_sem, Nat.reduceAdd, Int.reduceAdd, Int.reduceSub, Int.reduceMul, BNS]
  try rfl

inductive Cv (h : List Blk) : Value → Prop
  | nil : Cv h (.slice none 0 0)
  | sl {bc n : Nat} {f : Nat → UInt8} {rc : Bool} (hb : h[bc]? = some ⟨Bs n f, rc⟩) (hn : n ≤ 4096) : Cv h (sl bc 0 n 1)
theorem Cv.app {h : List Blk} {cv : Value} (c : Cv h cv) (L : List Blk) : Cv (h ++ L) cv := by
  cases c with
  | nil => exact .nil
  | sl hb hn => exact .sl (look_old hb L) hn
def frH (s0 : Int) (f : Nat → UInt8) : Nat → Int
  | 0 => s0
  | k + 1 => IntKind.u64.wrap (IntKind.u64.wrap (IntKind.u64.wrap (frH s0 f k * 1099511628211) + ((f k).toNat : Int)) + 11)
theorem from_aft {h : List Blk} {cv : Value} (c : Cv h cv) : ∃ h', SrcAt h' h.length cv ∧ (∃ L, h' = h ++ L) ∧ AC Tryz.prog 24 [cv] h (pt h.length 0) h' := by
  cases c with
  | nil =>
    refine ⟨h ++ [⟨Sr (.slice none 0 0) ((0 : Nat) : Int) 9001, true⟩], ⟨⟨Sr (.slice none 0 0) ((0 : Nat) : Int) 9001, true⟩, by simp, 0, 9001, 0, fun _ => 0, rfl, Nat.le_refl _, by omega, .nil _⟩, ⟨_, rfl⟩, ?_⟩
    (refine AC_begin (fun _ _ => Tryz.call24 _ _) Tryz.func24 rfl Tryz.ntmps24 Tryz.results24 (fun hwf => ?_); simp only [LCN, Nat.reduceAdd, Nat.reduceSub, List.replicate])
    (repeat (first | ((first | (refine And.intro ?_ ?_; focus exact PLA) | refine WA_seq (WA_region ?_) | refine WA_region ?_ | refine WA_exit ?_); try simp (maxSteps := 1000000) (disch := first | omega | rfl | decide | (simp only [LX] <;> omega)) only [go_sem, Nat.reduceAdd, Int.reduceAdd, Int.reduceSub, Int.reduceMul, BNS, yieldA_at 4 16]) | (refine (WA_rb (id := 5) [15] (SubM.refl _) mixedOk ?_); simp only [LSZ]; (repeat (first | ((first | (refine And.intro ?_ ?_; focus exact PLA) | refine RTk false [0, 1, 2, 3, 6, 7, 8] 9 ?_ | refine RTk true [4, 9] 7 ?_ | refine RTk false [5, 10, 11, 12, 13, 14] 1 ?_ | refine REx 15 ?_ | refine RB_done (by decide +kernel) ?_); try simp (maxSteps := 1000000) (disch := first | omega | rfl | decide | (simp only [LX] <;> omega)) only [go_sem, Nat.reduceAdd, Int.reduceAdd, Int.reduceSub, Int.reduceMul, BNS, yieldA_at 4 16])))) | refine WA_seq ?_ | refine WA_block ?_ | (refine WA_skip ?_; try simp only [go_sem]) | (refine WA_ret ?_; try simp only [go_sem]) | refine WA_ct rfl ?_ | refine WA_cf rfl ?_))
    refine WA_forP (fun k => [(4, .int .i64 k), (12, J), (13, J), (14, J), (15, J), (16, J), (17, J), (18, J), (19, J), (20, J), (21, J), (22, J), (23, J), (24, J), (25, J), (26, J), (27, J), (28, J), (29, J), (30, J), (31, J), (32, J), (33, J), (34, J), (35, J), (36, J)]) (fun k => []) (0) ?_ ?_ ?_ <;> (try simp only [PTS])
    · (exact sS0)
    · intro k hk
      omega
    · (refine sN (And.intro (show decide ((0 : Nat) < 0) = false from rfl) (And.intro (show decide ((0 : Int) < 0) = false from rfl) (@yieldA_at 4 16))) ?_)
      (exact sR0)
  | @sl bc n f rc hb hn =>
    have hbl := blt hb
    refine ⟨h ++ [⟨Sr (sl bc 0 n 1) ((0 : Nat) : Int) (frH ((9001 + n : Nat) : Int) f n), true⟩], ⟨⟨Sr (sl bc 0 n 1) ((0 : Nat) : Int) (frH ((9001 + n : Nat) : Int) f n), true⟩, by simp, 0, _, n, f, rfl, Nat.zero_le _, hn, .sl f (look_old hb _) (by omega)⟩, ⟨_, rfl⟩, ?_⟩
    (refine AC_begin (fun _ _ => Tryz.call24 _ _) Tryz.func24 rfl Tryz.ntmps24 Tryz.results24 (fun hwf => ?_); simp only [LCN, Nat.reduceAdd, Nat.reduceSub, List.replicate])
    (repeat (first | ((first | (refine And.intro ?_ ?_; focus exact PLA) | refine WA_seq (WA_region ?_) | refine WA_region ?_ | refine WA_exit ?_); try simp (maxSteps := 1000000) (disch := first | omega | rfl | decide | (simp only [LX] <;> omega)) only [go_sem, Nat.reduceAdd, Int.reduceAdd, Int.reduceSub, Int.reduceMul, BNS, yieldA_at 4 16]) | (refine (WA_rb (id := 5) [15] (SubM.refl _) mixedOk ?_); simp only [LSZ]; (repeat (first | ((first | (refine And.intro ?_ ?_; focus exact PLA) | refine RTk false [0, 1, 2, 3, 6, 7, 8] 9 ?_ | refine RTk true [4, 9] 7 ?_ | refine RTk false [5, 10, 11, 12, 13, 14] 1 ?_ | refine REx 15 ?_ | refine RB_done (by decide +kernel) ?_); try simp (maxSteps := 1000000) (disch := first | omega | rfl | decide | (simp only [LX] <;> omega)) only [go_sem, Nat.reduceAdd, Int.reduceAdd, Int.reduceSub, Int.reduceMul, BNS, yieldA_at 4 16])))) | refine WA_seq ?_ | refine WA_block ?_ | (refine WA_skip ?_; try simp only [go_sem]) | (refine WA_ret ?_; try simp only [go_sem]) | refine WA_ct rfl ?_ | refine WA_cf rfl ?_))
    refine WA_forP (fun k => [(4, .int .i64 k), (12, J), (13, J), (14, J), (15, J), (16, J), (17, J), (18, J), (19, J), (20, J), (21, J), (22, J), (23, J), (24, J), (25, J), (26, J), (27, J), (28, J), (29, J), (30, J), (31, J), (32, J), (33, J), (34, J), (35, J), (36, J)]) (fun k => [(0, ⟨Sr (sl bc 0 n 1) ((0 : Nat) : Int) (frH ((9001 + n : Nat) : Int) f k), true⟩)]) (n) ?_ ?_ ?_ <;> (try simp only [PTS])
    · (exact sS0)
    · intro k hk
      have hx := u8_lt (f k)
      (repeat (first | ((first | (refine And.intro ?_ ?_; focus exact PLA) | refine WA_seq (WA_region ?_) | refine WA_region ?_ | refine WA_exit ?_); try simp (maxSteps := 1000000) (disch := first | omega | rfl | decide | (simp only [LX] <;> omega)) only [go_sem, Nat.reduceAdd, Int.reduceAdd, Int.reduceSub, Int.reduceMul, BNS, look_old hb, decide_eq_true hk, show decide (k < 4096) = true from decide_eq_true (by omega), show IntKind.u64.wrap (IntKind.u64.wrap (IntKind.u64.wrap (frH ((9001 + n : Nat) : Int) f k * 1099511628211) + ((f k).toNat : Int)) + 11) = frH ((9001 + n : Nat) : Int) f (k + 1) from rfl, yieldA_at 4 16]) | (refine (WA_rb (id := 5) [15] (SubM.refl _) mixedOk ?_); simp only [LSZ]; (repeat (first | ((first | (refine And.intro ?_ ?_; focus exact PLA) | refine RTk false [0, 1, 2, 3, 6, 7, 8] 9 ?_ | refine RTk true [4, 9] 7 ?_ | refine RTk false [5, 10, 11, 12, 13, 14] 1 ?_ | refine REx 15 ?_ | refine RB_done (by decide +kernel) ?_); try simp (maxSteps := 1000000) (disch := first | omega | rfl | decide | (simp only [LX] <;> omega)) only [go_sem, Nat.reduceAdd, Int.reduceAdd, Int.reduceSub, Int.reduceMul, BNS, look_old hb, decide_eq_true hk, show decide (k < 4096) = true from decide_eq_true (by omega), show IntKind.u64.wrap (IntKind.u64.wrap (IntKind.u64.wrap (frH ((9001 + n : Nat) : Int) f k * 1099511628211) + ((f k).toNat : Int)) + 11) = frH ((9001 + n : Nat) : Int) f (k + 1) from rfl, yieldA_at 4 16])))) | refine WA_seq ?_ | refine WA_block ?_ | (refine WA_skip ?_; try simp only [go_sem]) | (refine WA_ret ?_; try simp only [go_sem]) | refine WA_ct rfl ?_ | refine WA_cf rfl ?_))
      (exact sS0)
    · (refine sN (And.intro (show decide (n < n) = false from decide_eq_false (Nat.lt_irrefl n)) (@yieldA_at 4 16)) ?_)
      (exact sR0)

end Go.Proofs.YtenkjbkcdcionaaGreat
/- Draws of blocks, places and matrices. -/
namespace Go.Proofs.YtenkjbkcdcionaaGreat
set_option linter.unusedSimpArgs false
set_option linter.unusedVariables false
set_option maxRecDepth 20000
set_option maxHeartbeats 1000000
open Go.Abs

theorem Cd.lt {h : List Blk} {b n : Nat} {cv : Value} {f : Nat → UInt8} (c : Cd h b cv n f) : ∀ bc n', cv = Go.Abs.sl bc 0 n' 1 → bc < h.length := by
  intro bc n' e
  cases c with
  | nil => cases e
  | sl _ hb hne => cases e; exact blt hb
theorem Cd.set2 {h h0 : List Blk} {b n n0 : Nat} {cv : Value} {f f0 : Nat → UInt8} (c : Cd h b cv n f) (c0 : Cd h0 b cv n0 f0) {i : Nat} (hi : h0.length ≤ i) (x : Blk) : Cd (h.set i x) b cv n f := by
  cases c with
  | nil => exact .nil f
  | sl _ hb hne =>
    have := c0.lt _ _ rfl
    exact .sl _ (set_at hb (by omega)) hne
theorem Aft.set {h h' : List Blk} {b : Nat} {cv : Value} (a : Aft h h' b cv) (s : SrcAt h b cv) {i : Nat} (hi : h.length ≤ i) (x : Blk) : Aft h (h'.set i x) b cv := by
  have hl := s.lt
  obtain ⟨k0, _, _, _, _, _, _, _, _, c0⟩ := s
  refine ⟨?_, fun j y hj hy => ?_, fun h0 hb e => ?_, by simpa using a.len⟩
  · obtain ⟨k, hb, aa, hs, n, f, e, l1, l2, c⟩ := a.src
    exact ⟨k, set_at hb (by omega), aa, hs, n, f, e, l1, l2, c.set2 c0 hi x⟩
  · have := blt hy
    exact set_at (a.keep j y hj hy) (by omega)
  · obtain ⟨L, e2⟩ := a.app h0 hb e
    obtain ⟨A, eA⟩ := e
    have hlen : h0.length ≤ i := by have := congrArg List.length eA; rw [List.length_append] at this; omega
    rw [e2]
    exact app_set' hlen x
theorem seq_ex {S : Type} {I : Nat → S → Prop} {R : Nat → S → S → Prop} {n : Nat} (s0 : S) (h0 : I 0 s0) (hs : ∀ k, k < n → ∀ s, I k s → ∃ t, I (k + 1) t ∧ R k s t) :
    ∃ f : Nat → S, f 0 = s0 ∧ (∀ k, k ≤ n → I k (f k)) ∧ ∀ k, k < n → R k (f k) (f (k + 1)) := by
  have h : ∀ p : Nat × S, ∃ t, p.1 < n → I p.1 p.2 → I (p.1 + 1) t ∧ R p.1 p.2 t := fun p => by
    by_cases hp : p.1 < n ∧ I p.1 p.2
    · obtain ⟨t, ht⟩ := hs p.1 hp.1 p.2 hp.2
      exact ⟨t, fun _ _ => ht⟩
    · exact ⟨p.2, fun a b => absurd ⟨a, b⟩ hp⟩
  obtain ⟨g, hg⟩ := Classical.axiomOfChoice h
  let f : Nat → S := fun k => Nat.rec s0 (fun k s => g (k, s)) k
  have hI : ∀ k, k ≤ n → I k (f k) := fun k => by
    induction k with
    | zero => exact fun _ => h0
    | succ k ih => exact fun hk => (hg (k, f k) (by show k < n; omega) (ih (by omega))).1
  exact ⟨f, rfl, hI, fun k hk => (hg (k, f k) hk (hI k (by omega))).2⟩
theorem drawBlock_aft {h : List Blk} {b : Nat} {cv : Value} (s : SrcAt h b cv) :
    ∃ (f : Nat → UInt8) (h' : List Blk), Aft h h' b cv ∧ AC Tryz.prog 84 [pt b 0] h (.agg (Bs 16 f).toArray) h' := by
  have hbl := s.lt
  have a0 := s.more [⟨Bs 16 zeroF, true⟩, ⟨Bs 16 zeroF, true⟩]
  obtain ⟨x, h1, hx, a1, c1⟩ := next_aft a0.src (N := 5) (by omega) (by omega)
  have hO := a1.keep (h.length + 1) ⟨Bs 16 zeroF, true⟩ (by omega) (by simp)
  have hR := a1.keep (h.length) ⟨Bs 16 zeroF, true⟩ (by omega) (by simp)
  by_cases h0 : x = 0
  · subst h0
    obtain ⟨y, h2, hy, a2, c2⟩ := next_aft a1.src (N := 16) (by omega) (by omega)
    obtain ⟨v, h3, a3, c3⟩ := drawByte_aft a2.src
    have hA := (a0.trans a1).trans (a2.trans a3)
    have hO3 := (a2.trans a3).keep _ _ (by omega) hO
    have hR3 := (a2.trans a3).keep _ _ (by omega) hR
    have hlen := hA.len
    have lO := blt hO3
    refine ⟨upd zeroF y v, (h3.set (h.length + 1) ⟨Bs 16 (upd zeroF y v), true⟩).set h.length ⟨Bs 16 (upd zeroF y v), true⟩, (hA.set s (by omega) _).set s (Nat.le_refl _) _, ?_⟩
    have hR4 := set_at (x := ⟨Bs 16 (upd zeroF y v), true⟩) hR3 (show h.length + 1 ≠ h.length by omega)
    (refine AC_begin (fun _ _ => Tryz.call84 _ _) Tryz.func84 rfl Tryz.ntmps84 Tryz.results84 (fun hwf => ?_); simp only [LCN, Nat.reduceAdd, Nat.reduceSub, List.replicate])
    (repeat (first | ((first | (refine And.intro ?_ ?_; focus exact PLA) | ((first | with_reducible apply callB_i | with_reducible apply callK_intro | with_reducible apply callQ_i); (focus (first | assumption | ((first | with_reducible apply c1 | with_reducible apply c2 | with_reducible apply c3) <;> (first | assumption | rfl | (simp (disch := omega) only [go_sem]; first | done | rfl) | omega | decide | (simp; done))))); (try exact WP_au)) | refine WA_seq (WA_region ?_) | refine WA_region ?_ | refine WA_exit ?_); try simp (maxSteps := 1000000) (disch := first | omega | rfl | decide | (simp only [LX] <;> omega)) only [go_sem, Nat.reduceAdd, Int.reduceAdd, Int.reduceSub, Int.reduceMul, BNS, beq_self_eq_true, hO3, hR4, look_set lO]) | refine WA_seq ?_ | refine WA_block ?_ | (refine WA_skip ?_; try simp only [go_sem]) | (refine WA_ret ?_; try simp only [go_sem]) | refine WA_ct rfl ?_ | refine WA_cf rfl ?_))
    refine ret_full (by first | exact .inr rfl | exact .inl rfl) (by simpa using hlen) ?_
    simp (maxSteps := 1000000) (disch := first | omega | rfl | decide | (simp only [LX] <;> omega)) only [go_sem, Nat.reduceAdd, Int.reduceAdd, Int.reduceSub, Int.reduceMul, BNS, look_set (blt hR4)]
    try rfl
  · have hx0 : (x == 0) = false := by simpa using h0
    obtain ⟨st, e0, hI, hRt⟩ := seq_ex (S := List Blk × (Nat → UInt8)) (n := 16)
      (I := fun _ s => s.1[h.length + 1]? = some ⟨Bs 16 s.2, true⟩ ∧ s.1[h.length]? = some ⟨Bs 16 zeroF, true⟩ ∧ Aft h s.1 b cv)
      (R := fun k s t => ∃ (x : Nat) (M : List Blk), x < 256 ∧ AC Tryz.prog 26 [pt b 0, .int .i64 ((256 : Nat) : Int)] s.1 (.int .i64 x) M ∧ M[h.length + 1]? = some ⟨Bs 16 s.2, true⟩ ∧ t = (M.set (h.length + 1) ⟨Bs 16 (upd s.2 k (UInt8.ofNat x)), true⟩, upd s.2 k (UInt8.ofNat x)))
      (h1, zeroF) ⟨hO, hR, a0.trans a1⟩ (fun k hk s0 ⟨i1, i2, i3⟩ => by
        obtain ⟨x, M, hx, a, c⟩ := next_aft i3.src (N := 256) (by omega) (by omega)
        have j1 := a.keep _ _ (by omega) i1
        have j2 := a.keep _ _ (by omega) i2
        exact ⟨_, ⟨look_set (blt j1), set_at j2 (by omega), (i3.trans a).set s (by omega) _⟩, x, M, hx, c, j1, rfl⟩)
    obtain ⟨f1, f2, f3⟩ := hI 16 (Nat.le_refl _)
    have hlen := f3.len
    refine ⟨(st 16).2, (st 16).1.set h.length ⟨Bs 16 (st 16).2, true⟩, f3.set s (Nat.le_refl _) _, ?_⟩
    (refine AC_begin (fun _ _ => Tryz.call84 _ _) Tryz.func84 rfl Tryz.ntmps84 Tryz.results84 (fun hwf => ?_); simp only [LCN, Nat.reduceAdd, Nat.reduceSub, List.replicate])
    (refine sW @hx0 @c1 ?_)
    refine WA_forH (fun k => [(4, .int .i64 k), (15, J), (16, J), (17, J), (18, J), (19, J), (20, J), (21, J), (22, J), (23, J)]) (fun k => (st k).1) (16) ?_ ?_ ?_ <;> (try simp only [PTS])
    · have e1 : (st 0).1 = h1 := by rw [e0]
      have l1 := (a0.trans a1).len
      rw [e1]
      (exact sA0)
    · intro k hk
      obtain ⟨y, M, hy, c, j1, e⟩ := hRt k hk
      have l1 := (hI (k + 1) hk).2.2.len
      rw [e] at l1 ⊢
      (refine sW @j1 @c ?_)
      (exact sA0)
    · (refine sN (And.intro @f1 @f2) ?_)
      refine ret_full (by first | exact .inr rfl | exact .inl rfl) (by simpa using hlen) ?_
      simp (maxSteps := 1000000) (disch := first | omega | rfl | decide | (simp only [LX] <;> omega)) only [go_sem, Nat.reduceAdd, Int.reduceAdd, Int.reduceSub, Int.reduceMul, BNS, look_set (blt f2)]
      try rfl

def idF (k : Nat) : Nat → UInt8 := fun i => if i < k then UInt8.ofNat i else 0
theorem idF_zero : idF 0 = zeroF := by funext i; unfold idF zeroF; rw [if_neg (Nat.not_lt_zero i)]
theorem idF_set (k : Nat) : upd (idF k) k (UInt8.ofNat k) = idF (k + 1) := by
  funext i; show (if i = k then UInt8.ofNat k else if i < k then UInt8.ofNat i else 0) = if i < k + 1 then UInt8.ofNat i else 0
  by_cases h : i = k
  · subst h; rw [if_pos rfl, if_pos (by omega)]
  · rw [if_neg h]
    by_cases h2 : i < k
    · rw [if_pos h2, if_pos (by omega)]
    · rw [if_neg h2, if_neg (by omega)]
end Go.Proofs.YtenkjbkcdcionaaGreat
/- Draws of fields and boxes. -/
namespace Go.Proofs.YtenkjbkcdcionaaGreat
set_option linter.unusedSimpArgs false
set_option linter.unusedVariables false
set_option maxRecDepth 20000
set_option maxHeartbeats 1000000
open Go.Abs

theorem fl_field : ∀ (k : Nat) (x : Int), x ∈ fl k → ∃ n : Nat, x = n ∧ fieldB n = true
  | 0, x, h => by simp [fl] at h
  | k + 1, x, h => by
    unfold fl at h
    split at h
    · rename_i hf
      rcases List.mem_append.1 h with h | h
      · exact fl_field k x h
      · exact ⟨256 + k, by simpa using h, hf⟩
    · exact fl_field k x h
theorem FL_field {i : Nat} {v : Int} (h : (Il FL)[i]? = some (.int .i64 v)) : ∃ n : Nat, v = n ∧ fieldB n = true := by
  rw [← FL_eq] at h
  unfold Il at h
  rw [List.getElem?_map, Option.map_eq_some_iff] at h
  obtain ⟨x, hx, e⟩ := h
  cases e
  exact fl_field 256 _ (List.mem_of_getElem? hx)
theorem fieldB_lt {n : Nat} (hf : fieldB n = true) : 256 ≤ n ∧ n < 512 := by
  obtain ⟨k, e, _, h0, h1⟩ := fieldB_nat (m := (n : Int)) (by rw [Int.toNat_natCast]; exact hf)
  omega
theorem f285 : fieldB 285 = true := by decide +kernel
theorem drawFld_aft {h : List Blk} {b : Nat} {cv : Value} (s : SrcAt h b cv) :
    ∃ (n : Nat) (h' : List Blk), fieldB n = true ∧ Aft h h' b cv ∧ AC Tryz.prog 102 [pt b 0] h (.int .i64 n) h' := by
  have hbl := s.lt
  have hfp := FL_pos
  have hfl := FL_le
  have a0 := s.more [⟨Il FL, true⟩]
  obtain ⟨x1, h1, hx1, a1, c1⟩ := next_aft a0.src (N := FL.length) hfp (by omega)
  obtain ⟨x2, h2, hx2, a2, c2⟩ := next_aft a1.src (N := FL.length) hfp (by omega)
  have hF0 : (h ++ [(⟨Il FL, true⟩ : Blk)])[h.length]? = some ⟨Il FL, true⟩ := by simp
  have hF1 := a1.keep _ _ (by omega) hF0
  have hF2 := a2.keep _ _ (by omega) hF1
  obtain ⟨v1, hv1⟩ := ints_at (Il_isI FL) (Nat.le_of_eq (Il_length FL).symm) x1 hx1
  obtain ⟨v2, hv2⟩ := ints_at (Il_isI FL) (Nat.le_of_eq (Il_length FL).symm) x2 hx2
  obtain ⟨v, h3, ⟨i, hi, hvi⟩, a4, c3⟩ := pickL_aft a2.src [.int .i64 285, .int .i64 v1, .int .i64 v2] (n := 3) rfl rfl (by omega) (by omega)
  have hA := ((a0.trans a1).trans a2).trans a4
  have hlen := hA.len
  obtain ⟨n, rfl, hn⟩ : ∃ n : Nat, v = n ∧ fieldB n = true := by
    match i, hi, hvi with
    | 0, _, e => cases e; exact ⟨285, rfl, f285⟩
    | 1, _, e => cases e; exact FL_field hv1
    | 2, _, e => cases e; exact FL_field hv2
    | n + 3, h, _ => exact absurd h (by omega)
  refine ⟨n, h3, hn, hA, ?_⟩
  clear a0 a1 a2 a4
  (refine AC_begin (fun _ _ => Tryz.call102 _ _) Tryz.func102 rfl Tryz.ntmps102 Tryz.results102 (fun hwf => ?_); simp only [LCN, Nat.reduceAdd, Nat.reduceSub, List.replicate])
  (repeat (first | ((first | (refine And.intro ?_ ?_; focus exact PLA) | ((first | with_reducible apply callB_i | with_reducible apply callK_intro | with_reducible apply callQ_i); (focus (first | assumption | ((first | with_reducible apply fieldsS_ac | with_reducible apply c1 | with_reducible apply c2 | with_reducible apply c3) <;> (first | assumption | rfl | (simp (disch := omega) only [go_sem]; first | done | rfl) | omega | decide | (simp; done))))); (try exact WP_au)) | refine WA_seq (WA_region ?_) | refine WA_region ?_ | refine WA_exit ?_); try simp (maxSteps := 1000000) (disch := first | omega | rfl | decide | (simp only [LX] <;> omega)) only [go_sem, Nat.reduceAdd, Int.reduceAdd, Int.reduceSub, Int.reduceMul, BNS, hF1, hF2, hv1, hv2]) | (refine (WA_rb (id := 2) [5, 7, 12, 14, 15, 16] (SubM.refl _) mixedOk ?_); simp only [LSZ]; (repeat' (first | ((first | (refine And.intro ?_ ?_; focus exact PLA) | ((first | with_reducible apply callB_i | with_reducible apply callK_intro | with_reducible apply callQ_i); (focus (first | assumption | ((first | with_reducible apply fieldsS_ac | with_reducible apply c1 | with_reducible apply c2 | with_reducible apply c3) <;> (first | assumption | rfl | (simp (disch := omega) only [go_sem]; first | done | rfl) | omega | decide | (simp; done))))); (try exact WP_au)) | refine RTk false [0, 1, 2, 3, 4, 8, 9, 10, 11] 9 ?_ | refine REx 5 ?_ | refine RTk false [6] 7 ?_ | refine RB_two 7 12 _ (by rfl) (by decide +kernel) (by decide +kernel) (by decide +kernel) ?_ ?_ | refine REx 12 ?_ | refine RTk false [13] 4 ?_ | refine REx 14 ?_ | refine REx 15 ?_ | refine REx 16 ?_ | refine RTk false [17] 0 ?_ | refine RB_done (by decide +kernel) ?_ | refine RTk false [13] 5 ?_ | refine RB_two 7 14 _ (by rfl) (by decide +kernel) (by decide +kernel) (by decide +kernel) ?_ ?_ | refine REx 7 ?_) <;> try simp (maxSteps := 1000000) (disch := first | omega | rfl | decide | (simp only [LX] <;> omega)) only [go_sem, Nat.reduceAdd, Int.reduceAdd, Int.reduceSub, Int.reduceMul, BNS, hF1, hF2, hv1, hv2])))) | refine WA_seq ?_ | refine WA_block ?_ | (refine WA_skip ?_; try simp only [go_sem]) | (refine WA_ret ?_; try simp only [go_sem]) | refine WA_ct rfl ?_ | refine WA_cf rfl ?_))
  all_goals (refine sN0 ?_)
  all_goals (refine ret_full (by first | exact .inr rfl | exact .inl rfl) hlen ?_)
  all_goals simp (maxSteps := 1000000) (disch := first | omega | rfl | decide | (simp only [LX] <;> omega)) only [go_sem, Nat.reduceAdd, Int.reduceAdd, Int.reduceSub, Int.reduceMul, BNS]
  all_goals try rfl

def rotQ (x c : UInt8) : Nat → UInt8
  | 0 => c
  | k + 1 => rotQ x c k ^^^ turnS x ([0, 2, 5].getD k 0)
def rotG (c : UInt8) : Nat → UInt8 := fun i => rotQ (UInt8.ofNat i) c 3
theorem rot25_ac {h : List Blk} {b : Nat} {r : Bool} (hb : h[b]? = some ⟨[.int .i64 0, .int .i64 2, .int .i64 5], r⟩) (c : UInt8) : AC Tryz.prog 119 [sl b 0 3 1, B c] h (.agg (Bs 256 (rotG c)).toArray) h := by
  have hbl := blt hb
  have ht0 : ∀ x h, AC Tryz.prog 126 [B x, .int .i64 0] h (B (turnS x 0)) h := fun x h => turnS_ac x (k := 0) (by omega) h
  have ht1 : ∀ x h, AC Tryz.prog 126 [B x, .int .i64 2] h (B (turnS x 2)) h := fun x h => turnS_ac x (k := 2) (by omega) h
  have ht4 : ∀ x h, AC Tryz.prog 126 [B x, .int .i64 5] h (B (turnS x 5)) h := fun x h => turnS_ac x (k := 5) (by omega) h
  (refine AC_begin (fun _ _ => Tryz.call119 _ _) Tryz.func119 rfl Tryz.ntmps119 Tryz.results119 (fun hwf => ?_); simp only [LCN, Nat.reduceAdd, Nat.reduceSub, List.replicate])
  (refine sN0 ?_)
  refine WA_forP (fun k => [(6, .int .i64 k), (7, J), (8, J), (10, J), (11, J), (12, J), (13, J), (14, J), (15, J), (16, J), (17, J), (18, J), (19, J), (20, J), (21, J), (22, J), (23, J), (24, J), (25, J), (26, J), (27, J), (28, J), (29, J), (30, J), (31, J), (32, J)]) (fun k => [(1, ⟨Bs 256 (pre k (rotG c) fun _ => 0), true⟩)]) (256) ?_ ?_ ?_ <;> (try simp only [PTS])
  · rw [pre_zero]
    (exact sS0)
  · intro i hi
    (refine sN0 ?_)
    refine WA_forP (fun k => [(7, B (rotQ (UInt8.ofNat i) c k)), (8, .int .i64 k), (15, J), (16, J), (17, J), (18, J), (19, J), (20, J), (21, J), (22, J), (23, J), (24, J), (25, J), (26, J), (27, J), (28, J), (29, J)]) (fun k => []) (3) ?_ ?_ ?_ <;> (try simp only [PTS])
    · (refine Drop_slots (by first | exact Nat.le_refl _ | simp) ?_; focus ((try simp only [JL_same, JL_J, JL_nil, Int.reduceAdd, Nat.sub_sub, ICS, Bool.false_eq_true, if_false, if_true, rotQ]); (try exact JL_refl _)))
    · intro k hk
      rcases (show k = 0 ∨ k = 1 ∨ k = 2 by omega) with rfl | rfl | rfl
      · (refine sW (look_old hb) @ht0 ?_)
        (refine Drop_slots (by first | exact Nat.le_refl _ | simp) ?_; focus ((try simp only [JL_same, JL_J, JL_nil, Int.reduceAdd, Nat.sub_sub, ICS, Bool.false_eq_true, if_false, if_true, rotQ, List.getD_cons_zero, List.getD_cons_succ]); (try exact JL_refl _)))
      · (refine sW (look_old hb) @ht1 ?_)
        (refine Drop_slots (by first | exact Nat.le_refl _ | simp) ?_; focus ((try simp only [JL_same, JL_J, JL_nil, Int.reduceAdd, Nat.sub_sub, ICS, Bool.false_eq_true, if_false, if_true, rotQ, List.getD_cons_zero, List.getD_cons_succ]); (try exact JL_refl _)))
      · (refine sW (look_old hb) @ht4 ?_)
        (refine Drop_slots (by first | exact Nat.le_refl _ | simp) ?_; focus ((try simp only [JL_same, JL_J, JL_nil, Int.reduceAdd, Nat.sub_sub, ICS, Bool.false_eq_true, if_false, if_true, rotQ, List.getD_cons_zero, List.getD_cons_succ]); (try exact JL_refl _)))
    · (refine sN (And.intro @upd_pre (show rotQ (UInt8.ofNat i) c 3 = rotG c i from rfl)) ?_)
      (exact sS0)
  · (refine sN0 ?_)
    (exact sR @Bs_pre)

theorem sameS_ac (h : List Blk) : AC Tryz.prog 121 [] h (.agg (Bs 256 (idF 256)).toArray) h := by
  (refine AC_begin (fun _ _ => Tryz.call121 _ _) Tryz.func121 rfl Tryz.ntmps121 Tryz.results121 (fun hwf => ?_); simp only [LCN, Nat.reduceAdd, Nat.reduceSub, List.replicate])
  (refine sN0 ?_)
  refine WA_forP (fun k => [(2, .int .i64 k), (4, J), (5, J), (6, J), (7, J), (8, J), (9, J), (10, J), (11, J)]) (fun k => [(1, ⟨Bs 256 (idF k), true⟩)]) (256) ?_ ?_ ?_ <;> (try simp only [PTS])
  · rw [idF_zero]
    (exact sS0)
  · intro k hk
    (refine sN @idF_set ?_)
    (exact sS0)
  · (refine sN0 ?_)
    (exact sR0)

theorem shuffle_aft {h : List Blk} {b : Nat} {cv : Value} (s : SrcAt h b cv) :
    ∃ (f : Nat → UInt8) (h' : List Blk), Aft h h' b cv ∧ AC Tryz.prog 122 [pt b 0] h (.agg (Bs 256 f).toArray) h' := by
  have hbl := s.lt
  have a0 := s.more [⟨Bs 256 zeroF, true⟩, ⟨Bs 256 (idF 256), true⟩]
  obtain ⟨st, e0, hI, hRt⟩ := seq_ex (S := List Blk × (Nat → UInt8)) (n := 255)
    (I := fun _ s => s.1[h.length + 1]? = some ⟨Bs 256 s.2, true⟩ ∧ s.1[h.length]? = some ⟨Bs 256 zeroF, true⟩ ∧ Aft h s.1 b cv)
    (R := fun k s t => ∃ (x : Nat) (M : List Blk), x < 255 - k + 1 ∧ AC Tryz.prog 26 [pt b 0, .int .i64 ((255 - k + 1 : Nat) : Int)] s.1 (.int .i64 x) M ∧ M[h.length + 1]? = some ⟨Bs 256 s.2, true⟩ ∧ t = (M.set (h.length + 1) ⟨Bs 256 (upd (upd s.2 (255 - k) (s.2 x)) x (s.2 (255 - k))), true⟩, upd (upd s.2 (255 - k) (s.2 x)) x (s.2 (255 - k))))
    (h ++ [⟨Bs 256 zeroF, true⟩, ⟨Bs 256 (idF 256), true⟩], idF 256) ⟨by simp, by simp, a0⟩ (fun k hk s0 ⟨i1, i2, i3⟩ => by
      obtain ⟨x, M, hx, a, c⟩ := next_aft i3.src (N := 255 - k + 1) (by omega) (by omega)
      have j1 := a.keep _ _ (by omega) i1
      have j2 := a.keep _ _ (by omega) i2
      exact ⟨_, ⟨look_set (blt j1), set_at j2 (by omega), (i3.trans a).set s (by omega) _⟩, x, M, hx, c, j1, rfl⟩)
  obtain ⟨f1, f2, f3⟩ := hI 255 (Nat.le_refl _)
  have hlen := f3.len
  refine ⟨(st 255).2, (st 255).1.set h.length ⟨Bs 256 (st 255).2, true⟩, f3.set s (Nat.le_refl _) _, ?_⟩
  (refine AC_begin (fun _ _ => Tryz.call122 _ _) Tryz.func122 rfl Tryz.ntmps122 Tryz.results122 (fun hwf => ?_); simp only [LCN, Nat.reduceAdd, Nat.reduceSub, List.replicate])
  (refine sW0 @sameS_ac ?_)
  refine WA_forH (fun k => [(4, .int .i64 ((255 - k : Nat))), (5, J), (6, J), (8, J), (9, J), (10, J), (11, J), (12, J), (13, J), (14, J), (15, J), (16, J), (17, J), (18, J), (19, J), (20, J), (21, J), (22, J), (23, J), (24, J), (25, J), (26, J)]) (fun k => (st k).1) (255) ?_ ?_ ?_ <;> (try simp only [PTS])
  · have e1 : (st 0).1 = h ++ [⟨Bs 256 zeroF, true⟩, ⟨Bs 256 (idF 256), true⟩] := by rw [e0]
    have l1 := a0.len
    rw [e1]
    (exact sA0)
  · intro k hk
    obtain ⟨y, M, hy, c, j1, e⟩ := hRt k hk
    have l1 := (hI (k + 1) hk).2.2.len
    rw [e] at l1 ⊢
    (repeat (first | ((first | (refine And.intro ?_ ?_; focus exact PLA) | ((first | with_reducible apply callB_i | with_reducible apply callK_intro | with_reducible apply callQ_i); (focus (first | assumption | (with_reducible apply c <;> (first | assumption | rfl | (simp (disch := omega) only [go_sem]; first | done | rfl) | omega | decide | (simp; done))))); (try exact WP_au)) | refine WA_seq (WA_region ?_) | refine WA_region ?_ | refine WA_exit ?_); try simp (maxSteps := 1000000) (disch := first | omega | rfl | decide | (simp only [LX] <;> omega)) only [go_sem, Nat.reduceAdd, Int.reduceAdd, Int.reduceSub, Int.reduceMul, BNS, j1, look_set (blt j1), List.set_set, decide_eq_true (show 0 < 255 - k by omega)]) | refine WA_seq ?_ | refine WA_block ?_ | (refine WA_skip ?_; try simp only [go_sem]) | (refine WA_ret ?_; try simp only [go_sem]) | refine WA_ct rfl ?_ | refine WA_cf rfl ?_))
    (exact sA0)
  · (refine sN (And.intro @f1 @f2) ?_)
    refine ret_full (by first | exact .inr rfl | exact .inl rfl) (by simpa using hlen) ?_
    simp (maxSteps := 1000000) (disch := first | omega | rfl | decide | (simp only [LX] <;> omega)) only [go_sem, Nat.reduceAdd, Int.reduceAdd, Int.reduceSub, Int.reduceMul, BNS, look_set (blt f2)]
    try rfl

theorem pick_nat {cs : List Value} {n : Nat} {v : Int} (hcs : ∀ i, i < n → ∃ k : Nat, cs[i]? = some (.int .i64 k) ∧ k ≤ 1000000001) (h : ∃ i, i < n ∧ cs[i]? = some (.int .i64 v)) : ∃ k : Nat, v = k ∧ k ≤ 1000000001 := by
  obtain ⟨i, hi, e⟩ := h
  obtain ⟨k, e2, hk⟩ := hcs i hi
  rw [e2] at e
  cases e
  exact ⟨k, rfl, hk⟩
theorem l02Draw_aft {h : List Blk} {b : Nat} {cv : Value} (s : SrcAt h b cv) :
    ∃ (f : Nat → UInt8) (h' : List Blk), Aft h h' b cv ∧ AC Tryz.prog 103 [pt b 0] h (.agg (Bs 256 f).toArray) h' := by
  have hbl := s.lt
  have a0 := s.more [⟨Bs 256 zeroF, true⟩]
  obtain ⟨x, h1, hx, a1, c1⟩ := next_aft a0.src (N := 6) (by omega) (by omega)
  have hR := a1.keep (h.length) ⟨Bs 256 zeroF, true⟩ (by omega) (by simp)
  have A1 := a0.trans a1
  have n1 := A1.len
  by_cases h0 : x = 0
  · subst h0
    obtain ⟨n, h2, hn, a2, c2⟩ := drawFld_aft a1.src
    obtain ⟨g0, g1⟩ := fieldB_lt hn
    have n2 := a2.len
    have a3 := a2.src.more [⟨[.int .i64 0, .int .i64 1, .int .i64 4], true⟩]
    obtain ⟨y, h4, hy, a4, c4⟩ := next_aft a3.src (N := 256) (by omega) (by omega)
    have hL := a4.keep h2.length ⟨[.int .i64 0, .int .i64 1, .int .i64 4], true⟩ (by omega) (by simp)
    have hc := rotS_ac hL (UInt8.ofNat y)
    have hp : ∀ h, AC Tryz.prog 118 [.int .i64 n, .int .i64 254] h (.agg (Bs 256 (powF n 254)).toArray) h := fun h => powS_ac g0 g1 (e := 254) (by omega) h
    have A := ((A1.trans a2).trans a3).trans a4
    have hR4 := ((a2.trans a3).trans a4).keep _ _ (by omega) hR
    have hlen := A.len
    refine ⟨thenF (powF n 254) (rotF (UInt8.ofNat y)), h4.set h.length ⟨Bs 256 (thenF (powF n 254) (rotF (UInt8.ofNat y))), true⟩, A.set s (Nat.le_refl _) _, ?_⟩
    (refine AC_begin (fun _ _ => Tryz.call103 _ _) Tryz.func103 rfl Tryz.ntmps103 Tryz.results103 (fun hwf => ?_); simp only [LCN, Nat.reduceAdd, Nat.reduceSub, List.replicate])
    (refine sW @hR4 (And.intro @c1 (And.intro @c2 (And.intro @hp (And.intro @c4 (And.intro @hc @thenS_ac))))) ?_)
    refine ret_full (by first | exact .inr rfl | exact .inl rfl) (by simpa using hlen) ?_
    simp (maxSteps := 1000000) (disch := first | omega | rfl | decide | (simp only [LX] <;> omega)) only [go_sem, Nat.reduceAdd, Int.reduceAdd, Int.reduceSub, Int.reduceMul, BNS, look_set (blt hR4)]
    try rfl
  · have hx0 : (x == 0) = false := by simpa using h0
    by_cases h1x : x = 1
    · subst h1x
      obtain ⟨n, h2, hn, a2, c2⟩ := drawFld_aft a1.src
      obtain ⟨g0, g1⟩ := fieldB_lt hn
      obtain ⟨v, h3, hv, a3, c3⟩ := pickL_aft a2.src [.int .i64 1, .int .i64 2, .int .i64 7, .int .i64 11, .int .i64 13, .int .i64 127, .int .i64 254] (n := 7) rfl rfl (by omega) (by omega)
      obtain ⟨e, rfl, he⟩ := pick_nat (fun i hi => by
        match i, hi with
        | 0, _ => exact ⟨1, rfl, by omega⟩
        | 1, _ => exact ⟨2, rfl, by omega⟩
        | 2, _ => exact ⟨7, rfl, by omega⟩
        | 3, _ => exact ⟨11, rfl, by omega⟩
        | 4, _ => exact ⟨13, rfl, by omega⟩
        | 5, _ => exact ⟨127, rfl, by omega⟩
        | 6, _ => exact ⟨254, rfl, by omega⟩
        | n + 7, h => exact absurd h (by omega)) hv
      have A := (A1.trans a2).trans a3
      have hR3 := (a2.trans a3).keep _ _ (by omega) hR
      have hlen := A.len
      refine ⟨powF n e, h3.set h.length ⟨Bs 256 (powF n e), true⟩, A.set s (Nat.le_refl _) _, ?_⟩
      (refine AC_begin (fun _ _ => Tryz.call103 _ _) Tryz.func103 rfl Tryz.ntmps103 Tryz.results103 (fun hwf => ?_); simp only [LCN, Nat.reduceAdd, Nat.reduceSub, List.replicate])
      (refine sW (And.intro @hx0 @hR3) (And.intro @c1 (And.intro @c2 (And.intro @c3 (powS_ac g0 g1 (e := e) (by omega))))) ?_)
      refine ret_full (by first | exact .inr rfl | exact .inl rfl) (by simpa using hlen) ?_
      simp (maxSteps := 1000000) (disch := first | omega | rfl | decide | (simp only [LX] <;> omega)) only [go_sem, Nat.reduceAdd, Int.reduceAdd, Int.reduceSub, Int.reduceMul, BNS, look_set (blt hR3)]
      try rfl
    · have hx1 : (x == 1) = false := by simpa using h1x
      by_cases h2x : x = 2
      · subst h2x
        have a2 := a1.src.more [⟨[.int .i64 0, .int .i64 2, .int .i64 5], true⟩]
        obtain ⟨y, h3, hy, a3, c3⟩ := next_aft a2.src (N := 256) (by omega) (by omega)
        have hL := a3.keep h1.length ⟨[.int .i64 0, .int .i64 2, .int .i64 5], true⟩ (by omega) (by simp)
        have hc := rot25_ac hL (UInt8.ofNat y)
        have A := (A1.trans a2).trans a3
        have hR3 := (a2.trans a3).keep _ _ (by omega) hR
        have hlen := A.len
        refine ⟨rotG (UInt8.ofNat y), h3.set h.length ⟨Bs 256 (rotG (UInt8.ofNat y)), true⟩, A.set s (Nat.le_refl _) _, ?_⟩
        (refine AC_begin (fun _ _ => Tryz.call103 _ _) Tryz.func103 rfl Tryz.ntmps103 Tryz.results103 (fun hwf => ?_); simp only [LCN, Nat.reduceAdd, Nat.reduceSub, List.replicate])
        (refine sW (And.intro @hx0 (And.intro @hx1 @hR3)) (And.intro @c1 (And.intro @c3 @hc)) ?_)
        refine ret_full (by first | exact .inr rfl | exact .inl rfl) (by simpa using hlen) ?_
        simp (maxSteps := 1000000) (disch := first | omega | rfl | decide | (simp only [LX] <;> omega)) only [go_sem, Nat.reduceAdd, Int.reduceAdd, Int.reduceSub, Int.reduceMul, BNS, look_set (blt hR3)]
        try rfl
      · have hx2 : (x == 2) = false := by simpa using h2x
        by_cases h3x : x = 3
        · subst h3x
          have a2 := a1.src.more [⟨Bs 256 (idF 256), true⟩]
          obtain ⟨y, h3, hy, a3, c3⟩ := next_aft a2.src (N := 256) (by omega) (by omega)
          obtain ⟨z, h4, hz, a4, c4⟩ := next_aft a3.src (N := 256) (by omega) (by omega)
          have hO := (a3.trans a4).keep h1.length ⟨Bs 256 (idF 256), true⟩ (by omega) (by simp)
          have A := ((A1.trans a2).trans a3).trans a4
          have hR4 := ((a2.trans a3).trans a4).keep _ _ (by omega) hR
          have hR5 := set_at (x := ⟨Bs 256 (upd (upd (idF 256) y (idF 256 z)) z (idF 256 y)), true⟩) hR4 (show h1.length ≠ h.length by have := blt hR; omega)
          have hlen := A.len
          have hb1 := blt hR
          refine ⟨upd (upd (idF 256) y (idF 256 z)) z (idF 256 y), (h4.set h1.length ⟨Bs 256 (upd (upd (idF 256) y (idF 256 z)) z (idF 256 y)), true⟩).set h.length ⟨Bs 256 (upd (upd (idF 256) y (idF 256 z)) z (idF 256 y)), true⟩, (A.set s (by omega) _).set s (Nat.le_refl _) _, ?_⟩
          (refine AC_begin (fun _ _ => Tryz.call103 _ _) Tryz.func103 rfl Tryz.ntmps103 Tryz.results103 (fun hwf => ?_); simp only [LCN, Nat.reduceAdd, Nat.reduceSub, List.replicate])
          (repeat (first | ((first | (refine And.intro ?_ ?_; focus exact PLA) | ((first | with_reducible apply callB_i | with_reducible apply callK_intro | with_reducible apply callQ_i); (focus (first | assumption | ((first | with_reducible apply c1 | with_reducible apply sameS_ac | with_reducible apply c3 | with_reducible apply c4) <;> (first | assumption | rfl | (simp (disch := omega) only [go_sem]; first | done | rfl) | omega | decide | (simp; done))))); (try exact WP_au)) | refine WA_seq (WA_region ?_) | refine WA_region ?_ | refine WA_exit ?_); try simp (maxSteps := 1000000) (disch := first | omega | rfl | decide | (simp only [LX] <;> omega)) only [go_sem, Nat.reduceAdd, Int.reduceAdd, Int.reduceSub, Int.reduceMul, BNS, beq_self_eq_true, hx0, hx1, hx2, hO, look_set (blt hO), List.set_set, hR5]) | refine WA_seq ?_ | refine WA_block ?_ | (refine WA_skip ?_; try simp only [go_sem]) | (refine WA_ret ?_; try simp only [go_sem]) | refine WA_ct rfl ?_ | refine WA_cf rfl ?_))
          refine ret_full (by first | exact .inr rfl | exact .inl rfl) (by simpa using hlen) ?_
          simp (maxSteps := 1000000) (disch := first | omega | rfl | decide | (simp only [LX] <;> omega)) only [go_sem, Nat.reduceAdd, Int.reduceAdd, Int.reduceSub, Int.reduceMul, BNS, look_set (blt hR5)]
          try rfl
        · have hx3 : (x == 3) = false := by simpa using h3x
          obtain ⟨f, h2, a2, c2⟩ := shuffle_aft a1.src
          have A := A1.trans a2
          have hR2 := a2.keep _ _ (by omega) hR
          have hlen := A.len
          refine ⟨f, h2.set h.length ⟨Bs 256 f, true⟩, A.set s (Nat.le_refl _) _, ?_⟩
          (refine AC_begin (fun _ _ => Tryz.call103 _ _) Tryz.func103 rfl Tryz.ntmps103 Tryz.results103 (fun hwf => ?_); simp only [LCN, Nat.reduceAdd, Nat.reduceSub, List.replicate])
          (refine sW (And.intro @hx0 (And.intro @hx1 (And.intro @hx2 (And.intro @hx3 @hR2)))) (And.intro @c1 @c2) ?_)
          refine ret_full (by first | exact .inr rfl | exact .inl rfl) (by simpa using hlen) ?_
          simp (maxSteps := 1000000) (disch := first | omega | rfl | decide | (simp only [LX] <;> omega)) only [go_sem, Nat.reduceAdd, Int.reduceAdd, Int.reduceSub, Int.reduceMul, BNS, look_set (blt hR2)]
          try rfl

end Go.Proofs.YtenkjbkcdcionaaGreat
/- CauchyMatrix. -/
namespace Go.Proofs.YtenkjbkcdcionaaGreat
set_option linter.unusedSimpArgs false
set_option linter.unusedVariables false
set_option maxRecDepth 20000
set_option maxHeartbeats 1000000
open Go.Abs

theorem indexByte_neg : ∀ (l : List UInt8) (x : UInt8), decide (0 ≤ Lib.indexByte l x) = l.any fun y => x == y
  | [], _ => rfl
  | y :: l, x => by
    have ih := indexByte_neg l x
    rw [List.any_cons, ← ih, Lib.indexByte]
    by_cases h : y = x
    · subst h; simp
    · have h1 : (y == x) = false := by simpa using h
      have h2 : (x == y) = false := by simpa using fun e => h e.symm
      have h3 := Lib.indexByte_ge l x
      rw [h1, h2, Bool.false_or, if_neg (by simp)]
      by_cases h4 : Lib.indexByte l x = -1
      · rw [h4]; rfl
      · rw [if_neg (by simpa using h4), decide_eq_decide]; omega
theorem indexByte_twice (f : Nat → UInt8) (i : Nat) : decide (0 ≤ Lib.indexByte ((List.range i).map fun j => f (0 + j)) (f i)) = twiceAt f i i := by
  rw [indexByte_neg, List.any_map]; unfold twiceAt; congr 1; funext j; simp

theorem areDifferent_ac {h : List Blk} {b n : Nat} {f : Nat → UInt8} {r : Bool} (hb : h[b]? = some ⟨Bs n f, r⟩) (hn : n ≤ 140737488355328) : AC Tryz.prog 96 [sl b 0 n 1] h (.bool (!twiceP f n)) h := by
  (refine AC_begin (fun _ _ => Tryz.call96 _ _) Tryz.func96 rfl Tryz.ntmps96 Tryz.results96 (fun hwf => ?_); simp only [LCN, Nat.reduceAdd, Nat.reduceSub, List.replicate])
  (refine sN0 ?_)
  refine WA_forHJ (fun k => twiceP f k = false) (fun k => [(2, J), (3, J), (4, J), (7, .int .i64 k), (8, J), (9, J), (10, J), (11, J), (12, J), (13, J), (14, J), (15, J), (16, J), (17, J), (18, J)]) (fun k => h) (n) ?_ ?_ ?_ ?_ <;> (try simp only [PTS])
  · rfl
  · (exact sS0)
  · intro i hi hJ
    have ht := indexByte_twice f i
    have hib := indexByte_ac hb (o := 0) (n := i) (by omega) (f i)
    simp only [Nat.zero_add] at ht hib
    cases he : twiceAt f i i <;> rw [he] at ht
    · (refine sW (And.intro @hb @ht) @hib ?_)
      refine ⟨twiceP_s hJ he, ?_⟩
      (exact sS0)
    · (refine sW (And.intro @hb @ht) @hib ?_)
      (exact sR (twiceP_t hi he))
  · intro hJ
    (refine sN0 ?_)
    (exact sR @hJ)

end Go.Proofs.YtenkjbkcdcionaaGreat
/- Draws of ciphers. -/
namespace Go.Proofs.YtenkjbkcdcionaaGreat
set_option linter.unusedSimpArgs false
set_option linter.unusedVariables false
set_option maxRecDepth 20000
set_option maxHeartbeats 1000000
open Go.Abs

def lowM (z : UInt8) : Nat → UInt8 := fun i => if i % 5 = 0 then 1 else if i = 12 then z else 0
theorem r4_0 (x : Value) : splice (Bs 4 fun _ => 0) 0 [x] = [x, B 0, B 0, B 0] := rfl
theorem r4_1 (a b c d x : Value) : splice [a, b, c, d] 1 [x] = [a, x, c, d] := rfl
theorem r4_2 (a b c d x : Value) : splice [a, b, c, d] 2 [x] = [a, b, x, d] := rfl
theorem r4_3 (a b c d x : Value) : splice [a, b, c, d] 3 [x] = [a, b, c, x] := rfl
theorem m16_0 (a b c d : Value) : splice (Bs 16 fun _ => 0) (0 * 4) [a, b, c, d] = [a, b, c, d, B 0, B 0, B 0, B 0, B 0, B 0, B 0, B 0, B 0, B 0, B 0, B 0] := rfl
theorem m16_1 (e0 e1 e2 e3 e4 e5 e6 e7 e8 e9 e10 e11 e12 e13 e14 e15 a b c d : Value) : splice [e0, e1, e2, e3, e4, e5, e6, e7, e8, e9, e10, e11, e12, e13, e14, e15] 4 [a, b, c, d] = [e0, e1, e2, e3, a, b, c, d, e8, e9, e10, e11, e12, e13, e14, e15] := rfl
theorem m16_2 (e0 e1 e2 e3 e4 e5 e6 e7 e8 e9 e10 e11 e12 e13 e14 e15 a b c d : Value) : splice [e0, e1, e2, e3, e4, e5, e6, e7, e8, e9, e10, e11, e12, e13, e14, e15] (2 * 4) [a, b, c, d] = [e0, e1, e2, e3, e4, e5, e6, e7, a, b, c, d, e12, e13, e14, e15] := rfl
theorem m16_3 (e0 e1 e2 e3 e4 e5 e6 e7 e8 e9 e10 e11 e12 e13 e14 e15 a b c d : Value) : splice [e0, e1, e2, e3, e4, e5, e6, e7, e8, e9, e10, e11, e12, e13, e14, e15] (3 * 4) [a, b, c, d] = [e0, e1, e2, e3, e4, e5, e6, e7, e8, e9, e10, e11, a, b, c, d] := rfl
theorem lowM_is (z : UInt8) : ([B 1, B 0, B 0, B 0, B 0, B 1, B 0, B 0, B 0, B 0, B 1, B 0, B z, B 0, B 0, B 1] : List Value) = Bs 16 (lowM z) := rfl
set_option maxHeartbeats 8000000 in
theorem l04DrawB_aft {h : List Blk} {b : Nat} {cv : Value} (s : SrcAt h b cv) :
    ∃ (m : Int) (bx mx pl : Nat → UInt8) (r : Int) (h' : List Blk), ((0 ≤ r ∧ r ≤ 999) ∧ (0 ≤ m ∧ m ≤ 511)) ∧ Aft h h' b cv ∧ AC Tryz.prog 77 [pt b 0] h (.agg (Ci m bx mx pl r).toArray) h' := by
  have hbl := s.lt
  have a0 := s.more [⟨Ci 0 zeroF zeroF zeroF 0, true⟩]
  obtain ⟨x, h1, hx, a1, c1⟩ := next_aft a0.src (N := 20) (by omega) (by omega)
  obtain ⟨v, h2, hv, a2, c2⟩ := pickL_aft a1.src [.int .i64 0, .int .i64 1, .int .i64 2, .int .i64 3, .int .i64 5, .int .i64 9, .int .i64 x] (n := 7) rfl rfl (by omega) (by omega)
  obtain ⟨e, rfl, he⟩ : ∃ e : Nat, v = e ∧ e ≤ 20 := by
    obtain ⟨i, hi, e⟩ := hv
    match i, hi, e with
    | 0, _, e => cases e; exact ⟨0, rfl, by omega⟩
    | 1, _, e => cases e; exact ⟨1, rfl, by omega⟩
    | 2, _, e => cases e; exact ⟨2, rfl, by omega⟩
    | 3, _, e => cases e; exact ⟨3, rfl, by omega⟩
    | 4, _, e => cases e; exact ⟨5, rfl, by omega⟩
    | 5, _, e => cases e; exact ⟨9, rfl, by omega⟩
    | 6, _, e => cases e; exact ⟨x, rfl, by omega⟩
    | n + 7, h, _ => exact absurd h (by omega)
  obtain ⟨r, hr⟩ : ∃ r : Int, r = ((1 + e : Nat) : Int) := ⟨_, rfl⟩
  have a3 := a2.src.more [⟨Ci 285 hBoxF hMixF hPlF r, true⟩]
  obtain ⟨y, h3, hy, a4, c3⟩ := next_aft a3.src (N := 2) (by omega) (by omega)
  have A4 := (((a0.trans a1).trans a2).trans a3).trans a4
  have l2 := a2.src.lt
  have hR2 := (a1.trans a2).keep h.length ⟨Ci 0 zeroF zeroF zeroF 0, true⟩ (by omega) (by simp)
  have hlt := blt hR2
  have hR4 := (a3.trans a4).keep _ _ (by omega) hR2
  have hC4 := a4.keep h2.length ⟨Ci 285 hBoxF hMixF hPlF r, true⟩ (by omega) (by simp)
  have hw1 : IntKind.i64.wrap (1 + (e : Int)) = r := by rw [hr, show (1 + (e : Int)) = ((1 + e : Nat) : Int) by omega]; exact wrap_N (by omega)
  have hrs := hr.symm
  have hr0 : 0 ≤ r ∧ r ≤ 999 := by omega
  by_cases hy0 : y = 0
  · subst hy0
    have hlen := A4.len
    refine ⟨285, hBoxF, hMixF, hPlF, r, h3.set h.length ⟨Ci 285 hBoxF hMixF hPlF r, true⟩, ⟨hr0, by omega⟩, A4.set s (Nat.le_refl _) _, ?_⟩
    (refine AC_begin (fun _ _ => Tryz.call77 _ _) Tryz.func77 rfl Tryz.ntmps77 Tryz.results77 (fun hwf => ?_); simp only [LCN, Nat.reduceAdd, Nat.reduceSub, List.replicate])
    (refine sW (And.intro @hw1 (And.intro @hrs (And.intro @Ci_splice0 (And.intro @Ci_splice1 (And.intro @Ci_splice2 (And.intro @Ci_splice4 (And.intro @Ci_splice_all (And.intro @hR4 @hC4)))))))) (And.intro @c1 (And.intro @c2 (And.intro @c3 @houseS_ac))) ?_)
    refine ret_full (by first | exact .inr rfl | exact .inl rfl) (by simpa using hlen) ?_
    simp (maxSteps := 1000000) (disch := first | omega | rfl | decide | (simp only [LX] <;> omega)) only [go_sem, Nat.reduceAdd, Int.reduceAdd, Int.reduceSub, Int.reduceMul, BNS, look_set (blt hR4)]
    try rfl
  · have hyb : (y == 0) = false := by simpa using hy0
    have hlh : h.length < h2.length := hlt
    have hbc : h2.length ≠ b := by omega
    obtain ⟨n, h5, hn, a5, c5⟩ := drawFld_aft a4.src
    obtain ⟨g0, g1⟩ := fieldB_lt hn
    have hC5 := a5.keep _ _ hbc hC4
    have hR5 := a5.keep _ _ (by omega) hR4
    have A5 := (A4.trans a5).set s (show h.length ≤ h2.length by omega) ⟨Ci n hBoxF hMixF hPlF r, true⟩
    have hC5' := look_set (x := ⟨Ci n hBoxF hMixF hPlF r, true⟩) (blt hC5)
    have hR5' := set_at (x := ⟨Ci n hBoxF hMixF hPlF r, true⟩) hR5 (show h2.length ≠ h.length by omega)
    obtain ⟨f, h6, a6, c6⟩ := l02Draw_aft A5.src
    have hC6 := a6.keep _ _ hbc hC5'
    have hR6 := a6.keep _ _ (by omega) hR5'
    have A6 := (A5.trans a6).set s (show h.length ≤ h2.length by omega) ⟨Ci n f hMixF hPlF r, true⟩
    have hC6' := look_set (x := ⟨Ci n f hMixF hPlF r, true⟩) (blt hC6)
    have hR6' := set_at (x := ⟨Ci n f hMixF hPlF r, true⟩) hR6 (show h2.length ≠ h.length by omega)
    obtain ⟨q, h7, hq, a7, c7⟩ := next_aft A6.src (N := 4) (by omega) (by omega)
    have A7 := A6.trans a7
    obtain ⟨st, e0, hI, hRt⟩ := seq_ex (S := List Blk × (Nat → UInt8)) (n := q)
      (I := fun _ s => s.1[h2.length]? = some ⟨Ci n f s.2 hPlF r, true⟩ ∧ s.1[h.length]? = some ⟨Ci 0 zeroF zeroF zeroF 0, true⟩ ∧ Aft h s.1 b cv)
      (R := fun _ s t => ∃ (i j z : Nat) (M1 M2 M3 : List Blk), i < 4 ∧ j < 4 ∧ z < 256 ∧ AC Tryz.prog 26 [pt b 0, .int .i64 ((4 : Nat) : Int)] s.1 (.int .i64 i) M1 ∧ AC Tryz.prog 26 [pt b 0, .int .i64 ((4 : Nat) : Int)] M1 (.int .i64 j) M2 ∧ AC Tryz.prog 26 [pt b 0, .int .i64 ((256 : Nat) : Int)] M2 (.int .i64 z) M3 ∧ M3[h2.length]? = some ⟨Ci n f s.2 hPlF r, true⟩ ∧ t = (M3.set h2.length ⟨Ci n f (upd s.2 (i * 4 + j) (UInt8.ofNat z)) hPlF r, true⟩, upd s.2 (i * 4 + j) (UInt8.ofNat z)))
      (h7, hMixF) ⟨a7.keep _ _ hbc hC6', a7.keep _ _ (by omega) hR6', A7⟩ (fun k hk s0 ⟨i1, i2, i3⟩ => by
        obtain ⟨i, M1, hi, r1, d1⟩ := next_aft i3.src (N := 4) (by omega) (by omega)
        obtain ⟨j, M2, hj, r2, d2⟩ := next_aft r1.src (N := 4) (by omega) (by omega)
        obtain ⟨z, M3, hz, r3, d3⟩ := next_aft r2.src (N := 256) (by omega) (by omega)
        have a := (r1.trans r2).trans r3
        have j1 := a.keep _ _ hbc i1
        have j2 := a.keep _ _ (by omega) i2
        exact ⟨_, ⟨look_set (blt j1), set_at j2 (by omega), (i3.trans a).set s (by omega) _⟩, i, j, z, M1, M2, M3, hi, hj, hz, d1, d2, d3, j1, rfl⟩)
    obtain ⟨f1, f2, f3⟩ := hI q (Nat.le_refl _)
    obtain ⟨mq, hmq⟩ : ∃ mq, mq = (st q).2 := ⟨_, rfl⟩
    obtain ⟨Mq, hMq⟩ : ∃ Mq, Mq = (st q).1 := ⟨_, rfl⟩
    rw [← hmq, ← hMq] at f1
    rw [← hMq] at f2 f3
    have hw1' := hw1
    have a8 := f3.src.more [⟨Bs 16 (backF n mq), true⟩]
    have hC8 := look_old f1 [⟨Bs 16 (backF n mq), true⟩]
    have hR8 := look_old f2 [⟨Bs 16 (backF n mq), true⟩]
    cases hdet : (detF n mq != 0)
    · obtain ⟨z, h9, hz, a9, c9⟩ := next_aft a8.src (N := 256) (by omega) (by omega)
      have hC9 := a9.keep _ _ hbc hC8
      have hR9 := a9.keep _ _ (by omega) hR8
      have A9 := ((f3.trans a8).trans a9).set s (show h.length ≤ h2.length by omega) ⟨Ci n f (lowM (UInt8.ofNat z)) hPlF r, true⟩
      have hC9' := look_set (x := ⟨Ci n f (lowM (UInt8.ofNat z)) hPlF r, true⟩) (blt hC9)
      have hR9' := set_at (x := ⟨Ci n f (lowM (UInt8.ofNat z)) hPlF r, true⟩) hR9 (show h2.length ≠ h.length by omega)
      obtain ⟨i, h10, hi, a10, c10⟩ := next_aft A9.src (N := 16) (by omega) (by omega)
      obtain ⟨j, h11, hj, a11, c11⟩ := next_aft a10.src (N := 16) (by omega) (by omega)
      have A11 := (A9.trans a10).trans a11
      have hC11 := (a10.trans a11).keep _ _ hbc hC9'
      have hR11 := (a10.trans a11).keep _ _ (by omega) hR9'
      have hR12 := set_at (x := ⟨Ci n f (lowM (UInt8.ofNat z)) (upd (upd hPlF i (hPlF j)) j (hPlF i)) r, true⟩) hR11 (show h2.length ≠ h.length by omega)
      have hlen := A11.len
      refine ⟨n, f, lowM (UInt8.ofNat z), upd (upd hPlF i (hPlF j)) j (hPlF i), r, (h11.set h2.length ⟨Ci n f (lowM (UInt8.ofNat z)) (upd (upd hPlF i (hPlF j)) j (hPlF i)) r, true⟩).set h.length ⟨Ci n f (lowM (UInt8.ofNat z)) (upd (upd hPlF i (hPlF j)) j (hPlF i)) r, true⟩, ⟨hr0, by omega⟩, (A11.set s (by omega) _).set s (Nat.le_refl _) _, ?_⟩
      (refine AC_begin (fun _ _ => Tryz.call77 _ _) Tryz.func77 rfl Tryz.ntmps77 Tryz.results77 (fun hwf => ?_); simp only [LCN, Nat.reduceAdd, Nat.reduceSub, List.replicate])
      (refine sW (And.intro @hyb (And.intro @hw1 (And.intro @hrs (And.intro @Ci_splice0 (And.intro @Ci_splice1 (And.intro @Ci_splice2 (And.intro @Ci_splice4 (And.intro @Ci_splice_all (And.intro @hR4 (And.intro @hC4 (And.intro @hC5 @hC6))))))))))) (And.intro @c1 (And.intro @c2 (And.intro @c3 (And.intro @houseS_ac (And.intro @c5 (And.intro @c6 @c7)))))) ?_)
      refine WA_forH (fun k => [(4, .int .i64 ((q - k : Nat))), (29, J), (30, J), (31, J), (32, J), (33, J), (34, J), (35, J), (36, J), (37, J), (38, J), (39, J), (40, J), (41, J), (42, J)]) (fun k => (st k).1) (q) ?_ ?_ ?_ <;> (try simp only [PTS])
      · have e1 : (st 0).1 = h7 := by rw [e0]
        have l1 := A7.len
        rw [e1]
        (exact sA0)
      · intro k hk
        obtain ⟨i, j, z, M1, M2, M3, hi, hj, hz, d1, d2, d3, j1, e⟩ := hRt k hk
        have l1 := (hI (k + 1) hk).2.2.len
        rw [e] at l1 ⊢
        (repeat (first | ((first | (refine And.intro ?_ ?_; focus exact PLA) | ((first | with_reducible apply callB_i | with_reducible apply callK_intro | with_reducible apply callQ_i); (focus (first | assumption | ((first | with_reducible apply d1 | with_reducible apply d2 | with_reducible apply d3) <;> (first | assumption | rfl | (simp (disch := omega) only [go_sem]; first | done | rfl) | omega | decide | (simp; done))))); (try exact WP_au)) | refine WA_seq (WA_region ?_) | refine WA_region ?_ | refine WA_exit ?_); try simp (maxSteps := 1000000) (disch := first | omega | rfl | decide | (simp only [LX] <;> omega)) only [go_sem, Nat.reduceAdd, Int.reduceAdd, Int.reduceSub, Int.reduceMul, BNS, j1, decide_eq_true (show 0 < q - k by omega)]) | (refine (WA_rb (id := 9) [1, 3, 5, 10] (SubM.refl _) mixedOk ?_); simp only [LSZ]; (repeat (first | ((first | (refine And.intro ?_ ?_; focus exact PLA) | ((first | with_reducible apply callB_i | with_reducible apply callK_intro | with_reducible apply callQ_i); (focus (first | assumption | ((first | with_reducible apply d1 | with_reducible apply d2 | with_reducible apply d3) <;> (first | assumption | rfl | (simp (disch := omega) only [go_sem]; first | done | rfl) | omega | decide | (simp; done))))); (try exact WP_au)) | refine RTk false [0, 2, 4, 7] 7 ?_ | refine REx 1 ?_ | refine RTk false [8] 5 ?_ | refine REx 3 ?_ | refine REx 5 ?_ | refine RTk false [6, 9] 1 ?_ | refine REx 10 ?_ | refine RB_done (by decide +kernel) ?_); try simp (maxSteps := 1000000) (disch := first | omega | rfl | decide | (simp only [LX] <;> omega)) only [go_sem, Nat.reduceAdd, Int.reduceAdd, Int.reduceSub, Int.reduceMul, BNS, j1, decide_eq_true (show 0 < q - k by omega)])))) | refine WA_seq ?_ | refine WA_block ?_ | (refine WA_skip ?_; try simp only [go_sem]) | (refine WA_ret ?_; try simp only [go_sem]) | refine WA_ct rfl ?_ | refine WA_cf rfl ?_))
        all_goals (exact sA0)
      · rw [← hMq]
        (repeat (first | ((first | (refine And.intro ?_ ?_; focus exact PLA) | ((first | with_reducible apply callB_i | with_reducible apply callK_intro | with_reducible apply callQ_i); (focus (first | assumption | ((first | with_reducible apply inverseS_ac g0 g1 | with_reducible apply c9 | with_reducible apply c10 | with_reducible apply c11) <;> (first | assumption | rfl | (simp (disch := omega) only [go_sem]; first | done | rfl) | omega | decide | (simp; done))))); (try exact WP_au)) | refine WA_seq (WA_region ?_) | refine WA_region ?_ | refine WA_exit ?_); try simp (maxSteps := 1000000) (disch := first | omega | rfl | decide | (simp only [LX] <;> omega)) only [go_sem, Nat.reduceAdd, Int.reduceAdd, Int.reduceSub, Int.reduceMul, BNS, Ci_splice2, Ci_splice3, Ci_splice_all, f1, hC8, hdet, r4_0, r4_1, r4_2, r4_3, m16_0, m16_1, m16_2, m16_3, lowM_is, Bool.not_false, Nat.sub_self, hC9, hC11, look_set (blt hC11), List.set_set, hR12]) | refine WA_seq ?_ | refine WA_block ?_ | (refine WA_skip ?_; try simp only [go_sem]) | (refine WA_ret ?_; try simp only [go_sem]) | refine WA_ct rfl ?_ | refine WA_cf rfl ?_))
        refine ret_full (by first | exact .inr rfl | exact .inl rfl) (by simpa using hlen) ?_
        simp (maxSteps := 1000000) (disch := first | omega | rfl | decide | (simp only [LX] <;> omega)) only [go_sem, Nat.reduceAdd, Int.reduceAdd, Int.reduceSub, Int.reduceMul, BNS, look_set (blt hR12)]
        try rfl
    · obtain ⟨i, h10, hi, a10, c10⟩ := next_aft a8.src (N := 16) (by omega) (by omega)
      obtain ⟨j, h11, hj, a11, c11⟩ := next_aft a10.src (N := 16) (by omega) (by omega)
      have A11 := ((f3.trans a8).trans a10).trans a11
      have hC11 := (a10.trans a11).keep _ _ hbc hC8
      have hR11 := (a10.trans a11).keep _ _ (by omega) hR8
      have hR12 := set_at (x := ⟨Ci n f mq (upd (upd hPlF i (hPlF j)) j (hPlF i)) r, true⟩) hR11 (show h2.length ≠ h.length by omega)
      have hlen := A11.len
      refine ⟨n, f, mq, upd (upd hPlF i (hPlF j)) j (hPlF i), r, (h11.set h2.length ⟨Ci n f mq (upd (upd hPlF i (hPlF j)) j (hPlF i)) r, true⟩).set h.length ⟨Ci n f mq (upd (upd hPlF i (hPlF j)) j (hPlF i)) r, true⟩, ⟨hr0, by omega⟩, (A11.set s (by omega) _).set s (Nat.le_refl _) _, ?_⟩
      (refine AC_begin (fun _ _ => Tryz.call77 _ _) Tryz.func77 rfl Tryz.ntmps77 Tryz.results77 (fun hwf => ?_); simp only [LCN, Nat.reduceAdd, Nat.reduceSub, List.replicate])
      (refine sW (And.intro @hyb (And.intro @hw1 (And.intro @hrs (And.intro @Ci_splice0 (And.intro @Ci_splice1 (And.intro @Ci_splice2 (And.intro @Ci_splice4 (And.intro @Ci_splice_all (And.intro @hR4 (And.intro @hC4 (And.intro @hC5 @hC6))))))))))) (And.intro @c1 (And.intro @c2 (And.intro @c3 (And.intro @houseS_ac (And.intro @c5 (And.intro @c6 @c7)))))) ?_)
      refine WA_forH (fun k => [(4, .int .i64 ((q - k : Nat))), (29, J), (30, J), (31, J), (32, J), (33, J), (34, J), (35, J), (36, J), (37, J), (38, J), (39, J), (40, J), (41, J), (42, J)]) (fun k => (st k).1) (q) ?_ ?_ ?_ <;> (try simp only [PTS])
      · have e1 : (st 0).1 = h7 := by rw [e0]
        have l1 := A7.len
        rw [e1]
        (exact sA0)
      · intro k hk
        obtain ⟨i, j, z, M1, M2, M3, hi, hj, hz, d1, d2, d3, j1, e⟩ := hRt k hk
        have l1 := (hI (k + 1) hk).2.2.len
        rw [e] at l1 ⊢
        (repeat (first | ((first | (refine And.intro ?_ ?_; focus exact PLA) | ((first | with_reducible apply callB_i | with_reducible apply callK_intro | with_reducible apply callQ_i); (focus (first | assumption | ((first | with_reducible apply d1 | with_reducible apply d2 | with_reducible apply d3) <;> (first | assumption | rfl | (simp (disch := omega) only [go_sem]; first | done | rfl) | omega | decide | (simp; done))))); (try exact WP_au)) | refine WA_seq (WA_region ?_) | refine WA_region ?_ | refine WA_exit ?_); try simp (maxSteps := 1000000) (disch := first | omega | rfl | decide | (simp only [LX] <;> omega)) only [go_sem, Nat.reduceAdd, Int.reduceAdd, Int.reduceSub, Int.reduceMul, BNS, j1, decide_eq_true (show 0 < q - k by omega)]) | (refine (WA_rb (id := 9) [1, 3, 5, 10] (SubM.refl _) mixedOk ?_); simp only [LSZ]; (repeat (first | ((first | (refine And.intro ?_ ?_; focus exact PLA) | ((first | with_reducible apply callB_i | with_reducible apply callK_intro | with_reducible apply callQ_i); (focus (first | assumption | ((first | with_reducible apply d1 | with_reducible apply d2 | with_reducible apply d3) <;> (first | assumption | rfl | (simp (disch := omega) only [go_sem]; first | done | rfl) | omega | decide | (simp; done))))); (try exact WP_au)) | refine RTk false [0, 2, 4, 7] 7 ?_ | refine REx 1 ?_ | refine RTk false [8] 5 ?_ | refine REx 3 ?_ | refine REx 5 ?_ | refine RTk false [6, 9] 1 ?_ | refine REx 10 ?_ | refine RB_done (by decide +kernel) ?_); try simp (maxSteps := 1000000) (disch := first | omega | rfl | decide | (simp only [LX] <;> omega)) only [go_sem, Nat.reduceAdd, Int.reduceAdd, Int.reduceSub, Int.reduceMul, BNS, j1, decide_eq_true (show 0 < q - k by omega)])))) | refine WA_seq ?_ | refine WA_block ?_ | (refine WA_skip ?_; try simp only [go_sem]) | (refine WA_ret ?_; try simp only [go_sem]) | refine WA_ct rfl ?_ | refine WA_cf rfl ?_))
        all_goals (exact sA0)
      · rw [← hMq]
        (repeat (first | ((first | (refine And.intro ?_ ?_; focus exact PLA) | ((first | with_reducible apply callB_i | with_reducible apply callK_intro | with_reducible apply callQ_i); (focus (first | assumption | ((first | with_reducible apply inverseS_ac g0 g1 | with_reducible apply c10 | with_reducible apply c11) <;> (first | assumption | rfl | (simp (disch := omega) only [go_sem]; first | done | rfl) | omega | decide | (simp; done))))); (try exact WP_au)) | refine WA_seq (WA_region ?_) | refine WA_region ?_ | refine WA_exit ?_); try simp (maxSteps := 1000000) (disch := first | omega | rfl | decide | (simp only [LX] <;> omega)) only [go_sem, Nat.reduceAdd, Int.reduceAdd, Int.reduceSub, Int.reduceMul, BNS, Ci_splice2, Ci_splice3, Ci_splice_all, f1, hC8, hdet, Bool.not_true, Nat.sub_self, hC11, look_set (blt hC11), List.set_set, hR12]) | refine WA_seq ?_ | refine WA_block ?_ | (refine WA_skip ?_; try simp only [go_sem]) | (refine WA_ret ?_; try simp only [go_sem]) | refine WA_ct rfl ?_ | refine WA_cf rfl ?_))
        refine ret_full (by first | exact .inr rfl | exact .inl rfl) (by simpa using hlen) ?_
        simp (maxSteps := 1000000) (disch := first | omega | rfl | decide | (simp only [LX] <;> omega)) only [go_sem, Nat.reduceAdd, Int.reduceAdd, Int.reduceSub, Int.reduceMul, BNS, look_set (blt hR12)]
        try rfl

theorem l04Draw_aft {h : List Blk} {b : Nat} {cv : Value} (s : SrcAt h b cv) :
    ∃ (m : Int) (bx mx pl : Nat → UInt8) (r : Int) (h' : List Blk), (0 ≤ r ∧ r ≤ 1000) ∧ Aft h h' b cv ∧ AC Tryz.prog 77 [pt b 0] h (.agg (Ci m bx mx pl r).toArray) h' := by
  obtain ⟨m, bx, mx, pl, r, h', ⟨hr, _⟩, a, c⟩ := l04DrawB_aft s
  exact ⟨m, bx, mx, pl, r, h', by omega, a, c⟩

end Go.Proofs.YtenkjbkcdcionaaGreat
/- Powers and orders in a field. Plain. -/
namespace Go.Proofs.YtenkjbkcdcionaaGreat
set_option linter.unusedSimpArgs false
set_option linter.unusedVariables false
set_option maxRecDepth 20000
set_option maxHeartbeats 1000000
open Go.Abs

def powN (m : Nat) (a : UInt8) : Nat → UInt8
  | 0 => 1
  | n + 1 => tm m (powN m a n) a
section
variable {m : Nat} (h0 : 256 ≤ m) (h1 : m < 512)
include h0 h1
theorem powN_add (a : UInt8) (i : Nat) : ∀ j, powN m a (i + j) = tm m (powN m a i) (powN m a j)
  | 0 => (tm_oneR h0 h1 _).symm
  | j + 1 => by
    show tm m (powN m a (i + j)) a = tm m (powN m a i) (tm m (powN m a j) a)
    rw [powN_add a i j, tm_assoc h0 h1]
theorem powN_mul (a : UInt8) (i : Nat) : ∀ j, powN m a (i * j) = powN m (powN m a i) j
  | 0 => rfl
  | j + 1 => by
    rw [Nat.mul_succ, powN_add h0 h1, powN_mul a i j]; rfl
theorem powN_one : ∀ n, powN m 1 n = 1
  | 0 => rfl
  | n + 1 => by show tm m (powN m 1 n) 1 = 1; rw [powN_one n, tm_one h0 h1]
theorem sqP_pow (a : UInt8) : ∀ i, sqP m a i = powN m a (2 ^ i)
  | 0 => by show a = tm m 1 a; rw [tm_one h0 h1]
  | i + 1 => by
    show tm m (sqP m a i) (sqP m a i) = _
    rw [sqP_pow a i, ← powN_add h0 h1, ← Nat.two_mul, Nat.pow_succ, Nat.mul_comm]
theorem poP_pow (a : UInt8) (e : Nat) : ∀ i, poP m a e i = powN m a (e % 2 ^ i)
  | 0 => by rw [Nat.pow_zero, Nat.mod_one]; rfl
  | i + 1 => by
    have hm : e % 2 ^ (i + 1) = e % 2 ^ i + 2 ^ i * (e / 2 ^ i % 2) := Nat.mod_pow_succ
    cases hb : e.testBit i
    · rw [poP_f hb, poP_pow a e i, hm]
      have : e / 2 ^ i % 2 = 0 := by
        rw [Nat.testBit_eq_decide_div_mod_eq] at hb
        have := of_decide_eq_false hb
        omega
      rw [this, Nat.mul_zero, Nat.add_zero]
    · rw [poP_t hb, poP_pow a e i, sqP_pow h0 h1, hm]
      have : e / 2 ^ i % 2 = 1 := by
        rw [Nat.testBit_eq_decide_div_mod_eq] at hb
        exact of_decide_eq_true hb
      rw [this, Nat.mul_one, powN_add h0 h1]
theorem po_pow (a : UInt8) (e : Nat) : po m a e = powN m a e := by
  unfold po
  rw [poP_pow h0 h1, Nat.mod_eq_of_lt (lt_blen e)]
end

def ordN (m : Nat) (a : UInt8) : Nat := 1 + skip (fun k => powN m a k != 1) 255 1
theorem ordN_lt {m : Nat} {a : UInt8} {k : Nat} (hk : 0 < k) (h : k < ordN m a) : powN m a k ≠ 1 := by
  unfold ordN at h
  have := skip_go _ _ (k - 1) (show k - 1 < skip (fun k => powN m a k != 1) 255 1 by omega)
  rw [show 1 + (k - 1) = k by omega] at this
  simpa using this
theorem ordN_pos (m : Nat) (a : UInt8) : 1 ≤ ordN m a := Nat.le_add_right _ _
theorem ordN_le {m : Nat} {a : UInt8} {k : Nat} (hk : 0 < k) (h : powN m a k = 1) : ordN m a ≤ k := by
  rcases Nat.lt_or_ge k (ordN m a) with h2 | h2
  · exact absurd h (ordN_lt hk h2)
  · exact h2
theorem ordN_is {m : Nat} {a : UInt8} (h : powN m a 255 = 1) : powN m a (ordN m a) = 1 := by
  have hl := ordN_le (by omega) h
  unfold ordN at *
  have := skip_end (p := fun k => powN m a k != 1) 255 1 (by omega)
  simpa using this
theorem ordN_dvd {m : Nat} (h0 : 256 ≤ m) (h1 : m < 512) {a : UInt8} {k : Nat} (h : powN m a 255 = 1) (hk : powN m a k = 1) : k % ordN m a = 0 := by
  have hp := ordN_pos m a
  have ho := ordN_is h
  rcases Nat.eq_zero_or_pos (k % ordN m a) with h2 | h2
  · exact h2
  · refine absurd ?_ (ordN_lt h2 (Nat.mod_lt k hp))
    have e := Nat.div_add_mod k (ordN m a)
    rw [← e, powN_add h0 h1, powN_mul h0 h1, ho, powN_one h0 h1, tm_one h0 h1] at hk
    exact hk

def chkG (m g : Nat) : Bool := po m (UInt8.ofNat g) 255 == 1 && (po m (UInt8.ofNat g) 85 != 1 && (po m (UInt8.ofNat g) 51 != 1 && po m (UInt8.ofNat g) 15 != 1))
def findG (m : Nat) : Nat → Nat → Nat
  | 0, g => g
  | f + 1, g => if chkG m g then g else findG m f (g + 1)
theorem gen_all : ∀ i, i < 256 → fieldB (i + 256) = true → 2 ≤ findG (i + 256) 100 2 ∧ findG (i + 256) 100 2 < 256 ∧ chkG (i + 256) (findG (i + 256) 100 2) = true := by decide +kernel
theorem dvd255 : ∀ d, d < 255 → 0 < d → 255 % d = 0 → 85 % d = 0 ∨ 51 % d = 0 ∨ 15 % d = 0 := by decide +kernel
theorem gen_ex {m : Nat} (h0 : 256 ≤ m) (h1 : m < 512) (hf : fieldB m = true) : ∃ g, 2 ≤ g ∧ g < 256 ∧ powN m (UInt8.ofNat g) 255 = 1 ∧ ordN m (UInt8.ofNat g) = 255 := by
  have := gen_all (m - 256) (by omega) (by rw [show m - 256 + 256 = m by omega]; exact hf)
  rw [show m - 256 + 256 = m by omega] at this
  obtain ⟨a1, a2, a3⟩ := this
  generalize findG m 100 2 = g at *
  unfold chkG at a3
  simp only [Bool.and_eq_true, beq_iff_eq, bne_iff_ne, po_pow h0 h1] at a3
  obtain ⟨b1, b2, b3, b4⟩ := a3
  refine ⟨g, a1, a2, b1, ?_⟩
  have hl := ordN_le (by omega) b1
  have hp := ordN_pos m (UInt8.ofNat g)
  have hd := ordN_dvd h0 h1 b1 b1
  have ho := ordN_is b1
  rcases Nat.lt_or_ge (ordN m (UInt8.ofNat g)) 255 with h | h
  · have key : ∀ k, k % ordN m (UInt8.ofNat g) = 0 → powN m (UInt8.ofNat g) k = 1 := fun k hk => by
      have e := Nat.div_add_mod k (ordN m (UInt8.ofNat g))
      rw [hk, Nat.add_zero] at e
      rw [← e, powN_mul h0 h1, ho, powN_one h0 h1]
    rcases dvd255 _ h hp hd with h2 | h2 | h2
    · exact absurd (key _ h2) b2
    · exact absurd (key _ h2) b3
    · exact absurd (key _ h2) b4
  · omega
theorem tm_zeroL (m : Nat) {a : UInt8} (h0 : 256 ≤ m) (h1 : m < 512) : tm m 0 a = 0 := by rw [tm_comm h0 h1]; exact tm_zeroR m a
theorem pow255 {m : Nat} (h0 : 256 ≤ m) (h1 : m < 512) (hf : fieldB m = true) {a : UInt8} (ha : a ≠ 0) : powN m a 255 = 1 := by
  obtain ⟨g, _, _, hg, ho⟩ := gen_ex h0 h1 hf
  generalize UInt8.ofNat g = w at *
  have nz : ∀ i, i ≤ 255 → powN m w i ≠ 0 := fun i hi e => by
    have : powN m w (i + (255 - i)) = 0 := by rw [powN_add h0 h1, e, tm_zeroL m h0 h1]
    rw [show i + (255 - i) = 255 by omega, hg] at this
    exact absurd this (by decide)
  have inj : ∀ i j, i < 255 → j < 255 → i < j → powN m w i ≠ powN m w j := fun i j hi hj hij e => by
    have h2 : powN m w (i + (255 - i)) = powN m w (j + (255 - i)) := by rw [powN_add h0 h1, e, ← powN_add h0 h1]
    rw [show i + (255 - i) = 255 by omega, show j + (255 - i) = (j - i) + 255 by omega, powN_add h0 h1 w (j - i) 255, hg, tm_oneR h0 h1] at h2
    exact ordN_lt (show 0 < j - i by omega) (by rw [ho]; omega) h2.symm
  have hpos : ∀ x : UInt8, x ≠ 0 → 0 < x.toNat := fun x hx => Nat.pos_of_ne_zero fun e => hx (UInt8.toNat.inj e)
  obtain ⟨i, hi, e⟩ := inj_surj 255 (fun i => (powN m w i).toNat - 1)
    (fun i hi => by have h2 := u8_lt (powN m w i); have h3 := hpos _ (nz i (by omega)); show (powN m w i).toNat - 1 < 255; omega)
    (fun i j hi hj e => by
      have e' : (powN m w i).toNat - 1 = (powN m w j).toNat - 1 := e
      have h3 := hpos _ (nz i (by omega))
      have h4 := hpos _ (nz j (by omega))
      have h5 : powN m w i = powN m w j := UInt8.toNat.inj (by omega)
      rcases Nat.lt_trichotomy i j with h | h | h
      · exact absurd h5 (inj i j hi hj h)
      · exact h
      · exact absurd h5.symm (inj j i hj hi h))
    (a.toNat - 1) (by have := u8_lt a; have := hpos a ha; omega)
  have e' : (powN m w i).toNat - 1 = a.toNat - 1 := e
  have h3 := hpos _ (nz i (by omega))
  have h4 := hpos a ha
  have h5 : powN m w i = a := UInt8.toNat.inj (by omega)
  rw [← h5, ← powN_mul h0 h1, Nat.mul_comm, powN_mul h0 h1, hg, powN_one h0 h1]
theorem tm_inv {m : Nat} (h0 : 256 ≤ m) (h1 : m < 512) (hf : fieldB m = true) {a : UInt8} (ha : a ≠ 0) : tm m a (inv m a) = 1 := by
  unfold inv
  rw [po_pow h0 h1, tm_comm h0 h1]
  exact pow255 h0 h1 hf ha
end Go.Proofs.YtenkjbkcdcionaaGreat
/- What the laws of functions share: draws told with memory opaque. -/
namespace Go.Proofs.YtenkjbkcdcionaaGreat
set_option linter.unusedSimpArgs false
set_option linter.unusedVariables false
set_option maxRecDepth 20000
set_option maxHeartbeats 1000000
open Go.Abs

theorem app_app {h H L : List Blk} (e : ∃ A, H = h ++ A) : ∃ A, H ++ L = h ++ A := by
  obtain ⟨A, rfl⟩ := e
  exact ⟨A ++ L, List.append_assoc ..⟩
theorem app_len {h H : List Blk} (e : ∃ A, H = h ++ A) : h.length ≤ H.length := by
  obtain ⟨A, rfl⟩ := e
  simp
theorem big_ac {h : List Blk} {cv : Value} (c : Cv h cv) : AC Tryz.prog 4 [cv] h (.bool false) h := by
  cases c with
  | nil =>
    (refine AC_begin (fun _ _ => Tryz.call4 _ _) Tryz.func4 rfl Tryz.ntmps4 Tryz.results4 (fun hwf => ?_); simp only [LCN, Nat.reduceAdd, Nat.reduceSub, List.replicate])
    (refine sN0 ?_)
    (exact sR0)
  | @sl bc n f rc hb hn =>
    (refine AC_begin (fun _ _ => Tryz.call4 _ _) Tryz.func4 rfl Tryz.ntmps4 Tryz.results4 (fun hwf => ?_); simp only [LCN, Nat.reduceAdd, Nat.reduceSub, List.replicate])
    (refine sN (show decide (4096 < n) = false from decide_eq_false (by omega)) ?_)
    (exact sR0)
theorem big_long {b n : Nat} (hn : 4096 < n) (hn2 : n ≤ 9223372036854775807) (h : List Blk) : AC Tryz.prog 4 [sl b 0 n 1] h (.bool true) h := by
  (refine AC_begin (fun _ _ => Tryz.call4 _ _) Tryz.func4 rfl Tryz.ntmps4 Tryz.results4 (fun hwf => ?_); simp only [LCN, Nat.reduceAdd, Nat.reduceSub, List.replicate])
  (refine sN (show decide (4096 < n) = true from decide_eq_true hn) ?_)
  (exact sR0)

end Go.Proofs.YtenkjbkcdcionaaGreat
/- Opaque memory that is longer. -/
namespace Go.Proofs.YtenkjbkcdcionaaGreat
set_option linter.unusedSimpArgs false
set_option linter.unusedVariables false
set_option maxRecDepth 20000
set_option maxHeartbeats 1000000
open Go.Abs

theorem setX {h h3 : List Blk} (e : ∃ L, h3 = h ++ L) {i : Nat} (hi : h.length ≤ i) (x : Blk) : ∃ L, h3.set i x = h ++ L := by
  obtain ⟨L, rfl⟩ := e
  exact app_set' hi x
theorem app_more {h h1 : List Blk} {x : List Blk} (e : ∃ L, h1 = h ++ x ++ L) : ∃ L, h1 = h ++ L := by
  obtain ⟨L, rfl⟩ := e
  exact ⟨_, List.append_assoc ..⟩
theorem cv_app {h H : List Blk} {cv : Value} (c : Cv h cv) (e : ∃ L, H = h ++ L) : Cv H cv := by
  obtain ⟨L, rfl⟩ := e
  exact c.app L
end Go.Proofs.YtenkjbkcdcionaaGreat
/- Draws of ciphers that may be spoiled, draws for the law on ciphers. -/
namespace Go.Proofs.YtenkjbkcdcionaaGreat
set_option linter.unusedSimpArgs false
set_option linter.unusedVariables false
set_option maxRecDepth 20000
set_option maxHeartbeats 1000000
open Go.Abs

theorem pick8_aft {h : List Blk} {b : Nat} {cv : Value} (s : SrcAt h b cv) :
    ∃ (v : UInt8) (h' : List Blk), Aft h h' b cv ∧ AC Tryz.prog 78 [pt b 0, sl h.length 0 3 1] (h ++ [⟨[B 16, B 1, B 255], true⟩]) (B v) h' := by
  have hbl := s.lt
  have a0 := s.more [⟨[B 16, B 1, B 255], true⟩]
  obtain ⟨x, h1, hx, a1, c1⟩ := next_aft a0.src (N := 3) (by omega) (by omega)
  have hL := a1.keep h.length ⟨[B 16, B 1, B 255], true⟩ (by omega) (by simp)
  obtain ⟨v, hv⟩ : ∃ v, ([B 16, B 1, B 255] : List Value)[x]? = some (B v) := by
    match x, hx with
    | 0, _ => exact ⟨16, rfl⟩
    | 1, _ => exact ⟨1, rfl⟩
    | 2, _ => exact ⟨255, rfl⟩
    | n + 3, h => exact absurd h (by omega)
  have hlen := (a0.trans a1).len
  refine ⟨v, h1, a0.trans a1, ?_⟩
  (refine AC_begin (fun _ _ => Tryz.call78 _ _) Tryz.func78 rfl Tryz.ntmps78 Tryz.results78 (fun hwf => ?_); simp only [LCN, Nat.reduceAdd, Nat.reduceSub, List.replicate])
  (refine sW (And.intro @hL @hv) @c1 ?_)
  refine ret_full (by first | exact .inr rfl | exact .inl rfl) (by first | simpa using a1.len | (have := a1.len; simp at this ⊢; omega)) ?_
  simp (maxSteps := 1000000) (disch := first | omega | rfl | decide | (simp only [LX] <;> omega)) only [go_sem, Nat.reduceAdd, Int.reduceAdd, Int.reduceSub, Int.reduceMul, BNS]
  try rfl

def rowM (f : Nat → UInt8) : Nat → UInt8 := fun i => if i < 4 then f (4 + i) else f i
theorem Ci_row01 (m : Int) (bx mx pl : Nat → UInt8) (r : Int) : splice (Ci m bx mx pl r) 257 (Bs 4 fun i => mx (4 + i)) = Ci m bx (rowM mx) pl r := by
  apply List.ext_getElem?
  intro i
  rw [splice_get (by rw [Ci_length, Bs_length]; omega), Bs_length]
  by_cases h : 257 ≤ i ∧ i < 257 + 4
  · rw [if_pos h, Bs_get (by omega)]
    obtain ⟨j, rfl⟩ : ∃ j, i = 257 + j := ⟨i - 257, by omega⟩
    rw [Ci_get2 _ _ _ _ _ (by omega), Nat.add_sub_cancel_left]
    unfold rowM
    rw [if_pos (by omega)]
  · rw [if_neg h]
    by_cases h2 : 257 ≤ i ∧ i < 273
    · obtain ⟨j, rfl⟩ : ∃ j, i = 257 + j := ⟨i - 257, by omega⟩
      rw [Ci_get2 _ _ _ _ _ (by omega), Ci_get2 _ _ _ _ _ (by omega)]
      unfold rowM
      rw [if_neg (by omega)]
    · by_cases h3 : i < 257
      · by_cases h4 : i = 0
        · subst h4; rw [Ci_get0, Ci_get0]
        · obtain ⟨j, rfl⟩ : ∃ j, i = 1 + j := ⟨i - 1, by omega⟩
          rw [Ci_get1 _ _ _ _ _ (by omega), Ci_get1 _ _ _ _ _ (by omega)]
      · by_cases h5 : i < 289
        · obtain ⟨j, rfl⟩ : ∃ j, i = 273 + j := ⟨i - 273, by omega⟩
          rw [Ci_get3 _ _ _ _ _ (by omega), Ci_get3 _ _ _ _ _ (by omega)]
        · by_cases h6 : i = 289
          · subst h6; rw [Ci_get4, Ci_get4]
          · rw [List.getElem?_eq_none (by rw [Ci_length]; omega), List.getElem?_eq_none (by rw [Ci_length]; omega)]
theorem Ci_row01' (m : Int) (bx mx pl : Nat → UInt8) (r : Int) : splice (Ci m bx mx pl r) (257 + 0 * 4) (Bs 4 fun i => mx (4 + i)) = Ci m bx (rowM mx) pl r := Ci_row01 m bx mx pl r
theorem Ci_l261 (m : Int) (bx mx pl : Nat → UInt8) (r : Int) (q : Bool) : loadRow (some ⟨Ci m bx mx pl r, q⟩) 261 4 = some (.agg (Bs 4 fun i => mx (4 + i)).toArray) := Ci_rowin2 m bx mx pl r (j := 4) (m := 4) (by omega) q
theorem Ci_g2 (m : Int) (bx mx pl : Nat → UInt8) (r : Int) : (Ci m bx mx pl r)[2]? = some (B (bx 1)) := Ci_get1 m bx mx pl r (j := 1) (by omega)
theorem Ci_g273 (m : Int) (bx mx pl : Nat → UInt8) (r : Int) : (Ci m bx mx pl r)[273]? = some (B (pl 0)) := Ci_get3 m bx mx pl r (j := 0) (by omega)
theorem Ci_s1 (m : Int) (bx mx pl : Nat → UInt8) (r : Int) (x : UInt8) : (Ci m bx mx pl r).set 1 (B x) = Ci m (upd bx 0 x) mx pl r  := by
  rw [show (1 : Nat) = 1 + 0 from rfl, Ci_cut1, mid_set (n := 256) (by simp [Bs_length]) (Bs_length ..) (by omega), Bs_set, ← Ci_cut1]
theorem Ci_s273 (m : Int) (bx mx pl : Nat → UInt8) (r : Int) (x : UInt8) : (Ci m bx mx pl r).set 273 (B x) = Ci m bx mx (upd pl 0 x) r  := by
  rw [show (273 : Nat) = 273 + 0 from rfl, Ci_cut3, mid_set (n := 16) (by simp [Bs_length]) (Bs_length ..) (by omega), Bs_set, ← Ci_cut3]
theorem Ci_s274 (m : Int) (bx mx pl : Nat → UInt8) (r : Int) (x : UInt8) : (Ci m bx mx pl r).set 274 (B x) = Ci m bx mx (upd pl 1 x) r  := by
  rw [show (274 : Nat) = 273 + 1 from rfl, Ci_cut3, mid_set (n := 16) (by simp [Bs_length]) (Bs_length ..) (by omega), Bs_set, ← Ci_cut3]
set_option maxHeartbeats 8000000 in
theorem l04Spoil_aft {h : List Blk} {b : Nat} {cv : Value} (s : SrcAt h b cv) :
    ∃ (m : Int) (bx mx pl : Nat → UInt8) (r : Int) (h' : List Blk), (-1 ≤ r ∧ r ≤ 1000) ∧ Aft h h' b cv ∧ AC Tryz.prog 38 [pt b 0] h (.agg (Ci m bx mx pl r).toArray) h' := by
  have hbl := s.lt
  have a0 := s.more [⟨Ci 0 zeroF zeroF zeroF 0, true⟩]
  obtain ⟨m, bx, mx, pl, r, h1, hr, a1, c1⟩ := l04Draw_aft a0.src
  have hR1 := a1.keep h.length ⟨Ci 0 zeroF zeroF zeroF 0, true⟩ (by omega) (by simp)
  have a2 := a1.src.more [⟨Ci m bx mx pl r, true⟩]
  obtain ⟨x, h2, hx, a3, c2⟩ := next_aft a2.src (N := 24) (by omega) (by omega)
  have hbc : h1.length ≠ b := by have := a1.src.lt; omega
  have hC := a3.keep h1.length ⟨Ci m bx mx pl r, true⟩ hbc (by simp)
  have hR2 := (a2.trans a3).keep _ _ (by omega) hR1
  have A3 := ((a0.trans a1).trans a2).trans a3
  have l1 := blt hR1
  have hrr : -1 ≤ r ∧ r ≤ 1000 := by omega
  by_cases x0 : x = 0
  · subst x0
    obtain ⟨v, h3, hv, a4, c3⟩ := pickL_aft a3.src [.int .i64 256, .int .i64 511, .int .i64 0, .int .i64 512] (n := 4) rfl rfl (by omega) (by omega)
    have A4 := A3.trans a4
    have hC4 := a4.keep _ _ hbc hC
    have hR4 := a4.keep _ _ (by omega) hR2
    have hR5 := set_at (x := ⟨Ci v bx mx pl r, true⟩) hR4 (show h1.length ≠ h.length by omega)
    have hlen := A4.len
    refine ⟨v, bx, mx, pl, r, (h3.set h1.length ⟨Ci v bx mx pl r, true⟩).set h.length ⟨Ci v bx mx pl r, true⟩, hrr, (A4.set s (by omega) _).set s (Nat.le_refl _) _, ?_⟩
    (refine AC_begin (fun _ _ => Tryz.call38 _ _) Tryz.func38 rfl Tryz.ntmps38 Tryz.results38 (fun hwf => ?_); simp only [LCN, Nat.reduceAdd, Nat.reduceSub, List.replicate])
    (repeat (first | ((first | (refine And.intro ?_ ?_; focus exact PLA) | ((first | with_reducible apply callB_i | with_reducible apply callK_intro | with_reducible apply callQ_i); (focus (first | assumption | ((first | with_reducible apply c1 | with_reducible apply c2 | with_reducible apply c3) <;> (first | assumption | rfl | (simp (disch := omega) only [go_sem]; first | done | rfl) | omega | decide | (simp; done))))); (try exact WP_au)) | refine WA_seq (WA_region ?_) | refine WA_region ?_ | refine WA_exit ?_); try simp (maxSteps := 1000000) (disch := first | omega | rfl | decide | (simp only [LX] <;> omega)) only [go_sem, Nat.reduceAdd, Int.reduceAdd, Int.reduceSub, Int.reduceMul, BNS, Ci_splice_all, Ci_row01', Ci_l261, Ci_g2, Ci_g273, Ci_s1, Ci_s273, Ci_s274, beq_self_eq_true, hC4, look_set (blt hC4), List.set_set, hR5]) | refine WA_seq ?_ | refine WA_block ?_ | (refine WA_skip ?_; try simp only [go_sem]) | (refine WA_ret ?_; try simp only [go_sem]) | refine WA_ct rfl ?_ | refine WA_cf rfl ?_))
    refine ret_full (by first | exact .inr rfl | exact .inl rfl) (by simpa using hlen) ?_
    simp (maxSteps := 1000000) (disch := first | omega | rfl | decide | (simp only [LX] <;> omega)) only [go_sem, Nat.reduceAdd, Int.reduceAdd, Int.reduceSub, Int.reduceMul, BNS, look_set (blt hR5)]
    try rfl
  have hx0 : (x == 0) = false := by simpa using x0
  by_cases x1 : x = 1
  · subst x1
    have A4 := A3
    have hC4 := hC
    have hR4 := hR2
    have hR5 := set_at (x := ⟨Ci m (upd bx 0 (bx 1)) mx pl r, true⟩) hR4 (show h1.length ≠ h.length by omega)
    have hlen := A4.len
    refine ⟨m, (upd bx 0 (bx 1)), mx, pl, r, (h2.set h1.length ⟨Ci m (upd bx 0 (bx 1)) mx pl r, true⟩).set h.length ⟨Ci m (upd bx 0 (bx 1)) mx pl r, true⟩, hrr, (A4.set s (by omega) _).set s (Nat.le_refl _) _, ?_⟩
    (refine AC_begin (fun _ _ => Tryz.call38 _ _) Tryz.func38 rfl Tryz.ntmps38 Tryz.results38 (fun hwf => ?_); simp only [LCN, Nat.reduceAdd, Nat.reduceSub, List.replicate])
    (repeat (first | ((first | (refine And.intro ?_ ?_; focus exact PLA) | ((first | with_reducible apply callB_i | with_reducible apply callK_intro | with_reducible apply callQ_i); (focus (first | assumption | ((first | with_reducible apply c1 | with_reducible apply c2) <;> (first | assumption | rfl | (simp (disch := omega) only [go_sem]; first | done | rfl) | omega | decide | (simp; done))))); (try exact WP_au)) | refine WA_seq (WA_region ?_) | refine WA_region ?_ | refine WA_exit ?_); try simp (maxSteps := 1000000) (disch := first | omega | rfl | decide | (simp only [LX] <;> omega)) only [go_sem, Nat.reduceAdd, Int.reduceAdd, Int.reduceSub, Int.reduceMul, BNS, Ci_splice_all, Ci_row01', Ci_l261, Ci_g2, Ci_g273, Ci_s1, Ci_s273, Ci_s274, beq_self_eq_true, show ((1 : Nat) == 0) = false from rfl, hC4, look_set (blt hC4), List.set_set, hR5]) | refine WA_seq ?_ | refine WA_block ?_ | (refine WA_skip ?_; try simp only [go_sem]) | (refine WA_ret ?_; try simp only [go_sem]) | refine WA_ct rfl ?_ | refine WA_cf rfl ?_))
    refine ret_full (by first | exact .inr rfl | exact .inl rfl) (by simpa using hlen) ?_
    simp (maxSteps := 1000000) (disch := first | omega | rfl | decide | (simp only [LX] <;> omega)) only [go_sem, Nat.reduceAdd, Int.reduceAdd, Int.reduceSub, Int.reduceMul, BNS, look_set (blt hR5)]
    try rfl
  have hx1 : (x == 1) = false := by simpa using x1
  by_cases x2 : x = 2
  · subst x2
    have A4 := A3
    have hC4 := hC
    have hR4 := hR2
    have hR5 := set_at (x := ⟨Ci m bx (rowM mx) pl r, true⟩) hR4 (show h1.length ≠ h.length by omega)
    have hlen := A4.len
    refine ⟨m, bx, (rowM mx), pl, r, (h2.set h1.length ⟨Ci m bx (rowM mx) pl r, true⟩).set h.length ⟨Ci m bx (rowM mx) pl r, true⟩, hrr, (A4.set s (by omega) _).set s (Nat.le_refl _) _, ?_⟩
    (refine AC_begin (fun _ _ => Tryz.call38 _ _) Tryz.func38 rfl Tryz.ntmps38 Tryz.results38 (fun hwf => ?_); simp only [LCN, Nat.reduceAdd, Nat.reduceSub, List.replicate])
    (repeat (first | ((first | (refine And.intro ?_ ?_; focus exact PLA) | ((first | with_reducible apply callB_i | with_reducible apply callK_intro | with_reducible apply callQ_i); (focus (first | assumption | ((first | with_reducible apply c1 | with_reducible apply c2) <;> (first | assumption | rfl | (simp (disch := omega) only [go_sem]; first | done | rfl) | omega | decide | (simp; done))))); (try exact WP_au)) | refine WA_seq (WA_region ?_) | refine WA_region ?_ | refine WA_exit ?_); try simp (maxSteps := 1000000) (disch := first | omega | rfl | decide | (simp only [LX] <;> omega)) only [go_sem, Nat.reduceAdd, Int.reduceAdd, Int.reduceSub, Int.reduceMul, BNS, Ci_splice_all, Ci_row01', Ci_l261, Ci_g2, Ci_g273, Ci_s1, Ci_s273, Ci_s274, beq_self_eq_true, show ((2 : Nat) == 0) = false from rfl, show ((2 : Nat) == 1) = false from rfl, hC4, look_set (blt hC4), List.set_set, hR5, Ci_row01]) | refine WA_seq ?_ | refine WA_block ?_ | (refine WA_skip ?_; try simp only [go_sem]) | (refine WA_ret ?_; try simp only [go_sem]) | refine WA_ct rfl ?_ | refine WA_cf rfl ?_))
    refine ret_full (by first | exact .inr rfl | exact .inl rfl) (by simpa using hlen) ?_
    simp (maxSteps := 1000000) (disch := first | omega | rfl | decide | (simp only [LX] <;> omega)) only [go_sem, Nat.reduceAdd, Int.reduceAdd, Int.reduceSub, Int.reduceMul, BNS, look_set (blt hR5)]
    try rfl
  have hx2 : (x == 2) = false := by simpa using x2
  by_cases x3 : x = 3
  · subst x3
    obtain ⟨v, h3, a4, c3⟩ := pick8_aft a3.src
    have A4 := A3.trans a4
    have hC4 := a4.keep _ _ hbc hC
    have hR4 := a4.keep _ _ (by omega) hR2
    have hR5 := set_at (x := ⟨Ci m bx mx (upd (upd pl 0 v) 1 (upd pl 0 v 0)) r, true⟩) hR4 (show h1.length ≠ h.length by omega)
    have hlen := A4.len
    refine ⟨m, bx, mx, (upd (upd pl 0 v) 1 (upd pl 0 v 0)), r, (h3.set h1.length ⟨Ci m bx mx (upd (upd pl 0 v) 1 (upd pl 0 v 0)) r, true⟩).set h.length ⟨Ci m bx mx (upd (upd pl 0 v) 1 (upd pl 0 v 0)) r, true⟩, hrr, (A4.set s (by omega) _).set s (Nat.le_refl _) _, ?_⟩
    (refine AC_begin (fun _ _ => Tryz.call38 _ _) Tryz.func38 rfl Tryz.ntmps38 Tryz.results38 (fun hwf => ?_); simp only [LCN, Nat.reduceAdd, Nat.reduceSub, List.replicate])
    (repeat (first | ((first | (refine And.intro ?_ ?_; focus exact PLA) | ((first | with_reducible apply callB_i | with_reducible apply callK_intro | with_reducible apply callQ_i); (focus (first | assumption | ((first | with_reducible apply c1 | with_reducible apply c2 | with_reducible apply c3) <;> (first | assumption | rfl | (simp (disch := omega) only [go_sem]; first | done | rfl) | omega | decide | (simp; done))))); (try exact WP_au)) | refine WA_seq (WA_region ?_) | refine WA_region ?_ | refine WA_exit ?_); try simp (maxSteps := 1000000) (disch := first | omega | rfl | decide | (simp only [LX] <;> omega)) only [go_sem, Nat.reduceAdd, Int.reduceAdd, Int.reduceSub, Int.reduceMul, BNS, Ci_splice_all, Ci_row01', Ci_l261, Ci_g2, Ci_g273, Ci_s1, Ci_s273, Ci_s274, beq_self_eq_true, show ((3 : Nat) == 0) = false from rfl, show ((3 : Nat) == 1) = false from rfl, show ((3 : Nat) == 2) = false from rfl, hC4, look_set (blt hC4), List.set_set, hR5]) | refine WA_seq ?_ | refine WA_block ?_ | (refine WA_skip ?_; try simp only [go_sem]) | (refine WA_ret ?_; try simp only [go_sem]) | refine WA_ct rfl ?_ | refine WA_cf rfl ?_))
    refine ret_full (by first | exact .inr rfl | exact .inl rfl) (by simpa using hlen) ?_
    simp (maxSteps := 1000000) (disch := first | omega | rfl | decide | (simp only [LX] <;> omega)) only [go_sem, Nat.reduceAdd, Int.reduceAdd, Int.reduceSub, Int.reduceMul, BNS, look_set (blt hR5)]
    try rfl
  have hx3 : (x == 3) = false := by simpa using x3
  by_cases x4 : x = 4
  · subst x4
    obtain ⟨v, h3, hv, a4, c3⟩ := pickL_aft a3.src [.int .i64 0, .int .i64 21, .int .i64 (-1)] (n := 3) rfl rfl (by omega) (by omega)
    have A4 := A3.trans a4
    have hC4 := a4.keep _ _ hbc hC
    have hR4 := a4.keep _ _ (by omega) hR2
    have hvr : -1 ≤ v ∧ v ≤ 1000 := by
      obtain ⟨i, hi, e⟩ := hv
      match i, hi, e with
      | 0, _, e => cases e; omega
      | 1, _, e => cases e; omega
      | 2, _, e => cases e; omega
      | n + 3, h, _ => exact absurd h (by omega)
    have hR5 := set_at (x := ⟨Ci m bx mx pl v, true⟩) hR4 (show h1.length ≠ h.length by omega)
    have hlen := A4.len
    refine ⟨m, bx, mx, pl, v, (h3.set h1.length ⟨Ci m bx mx pl v, true⟩).set h.length ⟨Ci m bx mx pl v, true⟩, hvr, (A4.set s (by omega) _).set s (Nat.le_refl _) _, ?_⟩
    (refine AC_begin (fun _ _ => Tryz.call38 _ _) Tryz.func38 rfl Tryz.ntmps38 Tryz.results38 (fun hwf => ?_); simp only [LCN, Nat.reduceAdd, Nat.reduceSub, List.replicate])
    (repeat (first | ((first | (refine And.intro ?_ ?_; focus exact PLA) | ((first | with_reducible apply callB_i | with_reducible apply callK_intro | with_reducible apply callQ_i); (focus (first | assumption | ((first | with_reducible apply c1 | with_reducible apply c2 | with_reducible apply c3) <;> (first | assumption | rfl | (simp (disch := omega) only [go_sem]; first | done | rfl) | omega | decide | (simp; done))))); (try exact WP_au)) | refine WA_seq (WA_region ?_) | refine WA_region ?_ | refine WA_exit ?_); try simp (maxSteps := 1000000) (disch := first | omega | rfl | decide | (simp only [LX] <;> omega)) only [go_sem, Nat.reduceAdd, Int.reduceAdd, Int.reduceSub, Int.reduceMul, BNS, Ci_splice_all, Ci_row01', Ci_l261, Ci_g2, Ci_g273, Ci_s1, Ci_s273, Ci_s274, beq_self_eq_true, show ((4 : Nat) == 0) = false from rfl, show ((4 : Nat) == 1) = false from rfl, show ((4 : Nat) == 2) = false from rfl, show ((4 : Nat) == 3) = false from rfl, hC4, look_set (blt hC4), List.set_set, hR5]) | refine WA_seq ?_ | refine WA_block ?_ | (refine WA_skip ?_; try simp only [go_sem]) | (refine WA_ret ?_; try simp only [go_sem]) | refine WA_ct rfl ?_ | refine WA_cf rfl ?_))
    refine ret_full (by first | exact .inr rfl | exact .inl rfl) (by simpa using hlen) ?_
    simp (maxSteps := 1000000) (disch := first | omega | rfl | decide | (simp only [LX] <;> omega)) only [go_sem, Nat.reduceAdd, Int.reduceAdd, Int.reduceSub, Int.reduceMul, BNS, look_set (blt hR5)]
    try rfl
  have hx4 : (x == 4) = false := by simpa using x4
  have hR5 := set_at (x := ⟨Ci m bx mx pl r, true⟩) hR2 (show h1.length ≠ h.length by omega)
  have hlen := A3.len
  refine ⟨m, bx, mx, pl, r, h2.set h.length ⟨Ci m bx mx pl r, true⟩, hrr, A3.set s (Nat.le_refl _) _, ?_⟩
  (refine AC_begin (fun _ _ => Tryz.call38 _ _) Tryz.func38 rfl Tryz.ntmps38 Tryz.results38 (fun hwf => ?_); simp only [LCN, Nat.reduceAdd, Nat.reduceSub, List.replicate])
  (repeat (first | ((first | (refine And.intro ?_ ?_; focus exact PLA) | ((first | with_reducible apply callB_i | with_reducible apply callK_intro | with_reducible apply callQ_i); (focus (first | assumption | ((first | with_reducible apply c1 | with_reducible apply c2) <;> (first | assumption | rfl | (simp (disch := omega) only [go_sem]; first | done | rfl) | omega | decide | (simp; done))))); (try exact WP_au)) | refine WA_seq (WA_region ?_) | refine WA_region ?_ | refine WA_exit ?_); try simp (maxSteps := 1000000) (disch := first | omega | rfl | decide | (simp only [LX] <;> omega)) only [go_sem, Nat.reduceAdd, Int.reduceAdd, Int.reduceSub, Int.reduceMul, BNS, Ci_splice_all, hx0, hx1, hx2, hx3, hx4, hC, hR2]) | refine WA_seq ?_ | refine WA_block ?_ | (refine WA_skip ?_; try simp only [go_sem]) | (refine WA_ret ?_; try simp only [go_sem]) | refine WA_ct rfl ?_ | refine WA_cf rfl ?_))
  refine ret_full (by first | exact .inr rfl | exact .inl rfl) (by simpa using hlen) ?_
  simp (maxSteps := 1000000) (disch := first | omega | rfl | decide | (simp only [LX] <;> omega)) only [go_sem, Nat.reduceAdd, Int.reduceAdd, Int.reduceSub, Int.reduceMul, BNS, look_set (blt hR2)]
  try rfl

end Go.Proofs.YtenkjbkcdcionaaGreat
/- Draws for the law on ciphers. -/
namespace Go.Proofs.YtenkjbkcdcionaaGreat
set_option linter.unusedSimpArgs false
set_option linter.unusedVariables false
set_option maxRecDepth 20000
set_option maxHeartbeats 1000000
open Go.Abs

def tup4 (a b c d : Option Value) : Option Value :=
  match a, b, c, d with
  | some a, some b, some c, some d => if (!isTup a && (!isTup b && (!isTup c && !isTup d))) = true then some (.tuple #[a, b, c, d]) else none
  | _, _, _, _ => none
@[go_sem] theorem ares_four {P : Program} {s : AS} (r r' r'' r3 : ResultVar) : aresults P [r, r', r'', r3] s = tup4 (ares1 P s r) (ares1 P s r') (ares1 P s r'') (ares1 P s r3) := by
  unfold aresults tup4
  simp only [mapO]
  cases ares1 P s r with
  | none => rfl
  | some a =>
    cases ares1 P s r' with
    | none => rfl
    | some b =>
      cases ares1 P s r'' with
      | none => rfl
      | some c =>
        cases ares1 P s r3 with
        | none => rfl
        | some d => simp [Option.bind, Option.map]
@[go_sem] theorem tup4_some {a b c d : Value} (ha : isTup a = false) (hb : isTup b = false) (hc : isTup c = false) (hd : isTup d = false) : tup4 (some a) (some b) (some c) (some d) = some (.tuple #[a, b, c, d]) := by
  unfold tup4; simp [ha, hb, hc, hd]
theorem Ci_stC (a0 : Int) (a1 a2 a3 : Nat → UInt8) (a4 : Int) (b0 : Int) (b1 b2 b3 : Nat → UInt8) (b4 : Int) {h : List Blk} {b : Nat} : storeRow h b (some ⟨Ci a0 a1 a2 a3 a4, true⟩) 0 290 (Ci b0 b1 b2 b3 b4) = some (J, h.set b ⟨Ci b0 b1 b2 b3 b4, true⟩) := Ci_store _ _ _ _ _ (Ci_length ..)
theorem three_op {h : List Blk} {cv : Value} (c : Cv h cv) : ∃ (m : Int) (bx mx pl y s : Nat → UInt8) (r : Int) (H : List Blk), (-1 ≤ r ∧ r ≤ 1000) ∧ (∃ A, H = h ++ A) ∧ Cv H cv ∧ AC Tryz.prog 49 [cv] h (.tuple #[.agg (Ci m bx mx pl r).toArray, .agg (Bs 16 y).toArray, .agg (Bs 16 s).toArray]) H := by
  obtain ⟨h1, s1, e1, c1⟩ := from_aft (c.app [⟨Ci 0 zeroF zeroF zeroF 0, true⟩, ⟨Bs 16 zeroF, true⟩, ⟨Bs 16 zeroF, true⟩])
  have hlA : (h ++ [(⟨Ci 0 zeroF zeroF zeroF 0, true⟩ : Blk), ⟨Bs 16 zeroF, true⟩, ⟨Bs 16 zeroF, true⟩]).length = h.length + 3 := by simp
  rw [hlA] at s1 c1
  have hl1 := s1.lt
  have hR0 : (h1)[h.length]? = some ⟨Ci 0 zeroF zeroF zeroF 0, true⟩ := by obtain ⟨L, rfl⟩ := e1; simp
  have hO0 : (h1)[h.length + 1]? = some ⟨Bs 16 zeroF, true⟩ := by obtain ⟨L, rfl⟩ := e1; simp
  have hP0 : (h1)[h.length + 2]? = some ⟨Bs 16 zeroF, true⟩ := by obtain ⟨L, rfl⟩ := e1; simp
  obtain ⟨m, bx, mx, pl, r, h2, hr, a2, c2⟩ := l04Spoil_aft s1
  obtain ⟨y, h3, a3, c3⟩ := drawBlock_aft a2.src
  obtain ⟨s, h4, a4, c4⟩ := drawBlock_aft a3.src
  have A := (a2.trans a3).trans a4
  have hR3 := A.keep _ _ (by omega) hR0
  have hO3 := A.keep _ _ (by omega) hO0
  have hP3 := A.keep _ _ (by omega) hP0
  have hO4 := set_at (x := ⟨Ci m bx mx pl r, true⟩) hO3 (show h.length ≠ h.length + 1 by omega)
  have hP4 := set_at (x := ⟨Bs 16 y, true⟩) (set_at (x := ⟨Ci m bx mx pl r, true⟩) hP3 (show h.length ≠ h.length + 2 by omega)) (show h.length + 1 ≠ h.length + 2 by omega)
  have hR5 := set_at (x := ⟨Bs 16 s, true⟩) (set_at (x := ⟨Bs 16 y, true⟩) (look_set (x := ⟨Ci m bx mx pl r, true⟩) (blt hR3)) (show h.length + 1 ≠ h.length by omega)) (show h.length + 2 ≠ h.length by omega)
  have hO5 := set_at (x := ⟨Bs 16 s, true⟩) (look_set (x := ⟨Bs 16 y, true⟩) (blt hO4)) (show h.length + 2 ≠ h.length + 1 by omega)
  have hlen : h.length ≤ h4.length := by have := A.len; omega
  have e : ∃ L, ((h4.set h.length ⟨Ci m bx mx pl r, true⟩).set (h.length + 1) ⟨Bs 16 y, true⟩).set (h.length + 2) ⟨Bs 16 s, true⟩ = h ++ L := setX (setX (setX (A.app h (by omega) (app_more e1)) (Nat.le_refl _) _) (by omega) _) (by omega) _
  refine ⟨m, bx, mx, pl, y, s, r, _, hr, e, cv_app c e, ?_⟩
  (refine AC_begin (fun _ _ => Tryz.call49 _ _) Tryz.func49 rfl Tryz.ntmps49 Tryz.results49 (fun hwf => ?_); simp only [LCN, Nat.reduceAdd, Nat.reduceSub, List.replicate])
  (refine sW (And.intro @Ci_stC (And.intro @Ci_splice_all (And.intro @hR3 (And.intro @hO3 (And.intro @hP3 (And.intro @hO4 @hP4)))))) (And.intro @c1 (And.intro @c2 (And.intro @c3 @c4))) ?_)
  refine ret_full (by first | exact .inr rfl | exact .inl rfl) (by simpa using hlen) ?_
  simp (maxSteps := 1000000) (disch := first | omega | rfl | decide | (simp only [LX] <;> omega)) only [go_sem, Nat.reduceAdd, Int.reduceAdd, Int.reduceSub, Int.reduceMul, BNS, hR5, hO5, look_set (blt hP4)]
  try rfl

theorem Cd.but {M : List Blk} {b n : Nat} {cv : Value} {f : Nat → UInt8} (c : Cd M b cv n f) : Cd (roBut b M) b cv n f := by
  cases c with
  | nil => exact .nil f
  | sl _ hb hne =>
    refine .sl (rc := false) f ?_ hne
    unfold roBut
    rw [List.getElem?_set_ne hne.symm]
    exact ro_of hb
theorem Cd.unbut {M : List Blk} {b n : Nat} {cv : Value} {f : Nat → UInt8} (c : Cd (roBut b M) b cv n f) : Cd M b cv n f := by
  cases c with
  | nil => exact .nil f
  | @sl _ bc _ rc hb hne =>
    rcases roBut_get hb with ⟨_, k', h1, h2, _⟩ | ⟨h1, _⟩
    · obtain ⟨cs, r⟩ := k'
      simp only at h2
      subst h2
      exact .sl f h1 hne
    · exact absurd h1 hne
theorem next_N {M : List Blk} {b : Nat} {cv : Value} (s : SrcAt M b cv) {N : Nat} (hN : 0 < N) (hN2 : N ≤ 1125899906842624) :
    ∃ (x : Nat) (k k' : Blk) (M' : List Blk), x < N ∧ M[b]? = some k ∧ k.rw = true ∧ M' = M.set b k' ∧ Aft M M' b cv ∧ AC Tryz.prog 26 [pt b 0, .int .i64 N] (roBut b M) (.int .i64 x) ((roBut b M).set b k') := by
  obtain ⟨k, hb, a, hs, n, f, e, h1, h2, c⟩ := s
  obtain ⟨x, k', hx, ⟨a', hs', n', f', e', h1', h2', c'⟩, hc⟩ := next_ex (roBut_here hb) ⟨a, hs, n, f, e, h1, h2, c.but⟩ hN hN2
  exact ⟨x, k, k', _, hx, hb, by rw [e], rfl, aft_set (blt hb) ⟨a', hs', n', f', e', h1', h2', c'.unbut⟩, hc⟩

end Go.Proofs.YtenkjbkcdcionaaGreat
/- Which boxes and places are permutations, which matrices have inverses: networks and ciphers. -/
namespace Go.Proofs.YtenkjbkcdcionaaGreat
set_option linter.unusedSimpArgs false
set_option linter.unusedVariables false
set_option maxRecDepth 20000
set_option maxHeartbeats 1000000
open Go.Abs

abbrev Ts (n : Nat) (f : Nat → Bool) : List Value := Vs n fun i => .bool (f i)
theorem bft : (false == true) = false := rfl
theorem upd_bool (f : Nat → Bool) (i : Nat) (x : Bool) : upd (fun i => Value.bool (f i)) i (.bool x) = fun j => Value.bool (upd f i x j) := by
  funext j; unfold upd; split <;> rfl
def metB (f : Nat → UInt8) (k : Nat) : Nat → Bool := fun y => (List.range k).any fun i => (f i).toNat == y
theorem metB_zero (f : Nat → UInt8) : metB f 0 = fun _ => false := rfl
theorem metB_set (f : Nat → UInt8) (k : Nat) : upd (metB f k) (f k).toNat true = metB f (k + 1) := by
  funext y
  unfold upd metB
  rw [List.range_succ, List.any_append]
  by_cases h : y = (f k).toNat
  · subst h; simp
  · rw [if_neg h]
    have : ((f k).toNat == y) = false := by simpa using fun e => h e.symm
    simp [this]
theorem metB_at (f : Nat → UInt8) (k : Nat) : metB f k (f k).toNat = twiceAt f k k := by
  unfold metB twiceAt
  congr 1
  funext i
  rw [Bool.eq_iff_iff]
  simp only [beq_iff_eq]
  constructor
  · intro h; exact (UInt8.toNat_inj.1 h).symm
  · intro h; rw [h]
theorem twice_iff (f : Nat → UInt8) (n : Nat) : twiceP f n = false ↔ ∀ i j, i < n → j < n → f i = f j → i = j := by
  have key : twiceP f n = true ↔ ∃ i j, i < n ∧ j < i ∧ f i = f j := by
    unfold twiceP twiceAt
    simp only [List.any_eq_true, List.mem_range, beq_iff_eq]
    constructor
    · rintro ⟨i, hi, j, hj, e⟩; exact ⟨i, j, hi, hj, e⟩
    · rintro ⟨i, j, hi, hj, e⟩; exact ⟨i, hi, j, hj, e⟩
  constructor
  · intro h i j hi hj e
    rcases Nat.lt_trichotomy i j with h1 | h1 | h1
    · exact absurd (key.2 ⟨j, i, hj, h1, e.symm⟩) (by rw [h]; decide)
    · exact h1
    · exact absurd (key.2 ⟨i, j, hi, h1, e⟩) (by rw [h]; decide)
  · intro h
    cases ht : twiceP f n with
    | false => rfl
    | true => obtain ⟨i, j, hi, hj, e⟩ := key.1 ht; have := h i j hi (by omega) e; omega
def boxOk (f : Nat → UInt8) : Bool := !twiceP f 256
theorem seen_all (f : Nat → UInt8) : (List.range 256).all (metB f 256) = boxOk f := by
  unfold boxOk
  rw [Bool.eq_iff_iff, Bool.not_eq_true', twice_iff]
  have hr : ∀ i, i < 256 → (f i).toNat < 256 := fun i _ => u8_lt (f i)
  constructor
  · intro h i j hi hj e
    refine surj_inj 256 (fun i => (f i).toNat) hr (fun y hy => ?_) i j hi hj (by rw [e])
    have := List.all_eq_true.1 h y (List.mem_range.2 hy)
    obtain ⟨x, hx, hx2⟩ := List.any_eq_true.1 this
    exact ⟨x, List.mem_range.1 hx, by simpa using hx2⟩
  · intro h
    rw [List.all_eq_true]
    intro y hy
    obtain ⟨i, hi, e⟩ := inj_surj 256 (fun i => (f i).toNat) hr (fun i j hi hj e => h i j hi hj (UInt8.toNat_inj.1 e)) y (List.mem_range.1 hy)
    exact List.any_eq_true.2 ⟨i, List.mem_range.2 hi, by simpa using e⟩

theorem boxS_ac (f : Nat → UInt8) (h : List Blk) : AC Tryz.prog 58 [.agg (Bs 256 f).toArray] h (.bool (boxOk f)) h := by
  (refine AC_begin (fun _ _ => Tryz.call58 _ _) Tryz.func58 rfl Tryz.ntmps58 Tryz.results58 (fun hwf => ?_); simp only [LCN, Nat.reduceAdd, Nat.reduceSub, List.replicate])
  (refine sN0 ?_)
  refine WA_forPJ (fun k => twiceP f k = false) (fun k => [(2, J), (4, .int .i64 k), (6, J), (7, J), (8, J), (9, J), (10, J), (11, J), (12, J), (13, J), (14, J), (15, J), (16, J), (17, J), (18, J)]) (fun k => [(1, ⟨Ts 256 (metB f k), true⟩)]) (256) ?_ ?_ ?_ ?_ <;> (try simp only [PTS])
  · rfl
  · rw [metB_zero]
    (exact sS0)
  · intro i hi hJ
    have hf := u8_lt (f i)
    cases he : twiceAt f i i
    · (refine sN (And.intro @metB_at (And.intro @he (And.intro @upd_bool @metB_set))) ?_)
      refine ⟨twiceP_s hJ he, ?_⟩
      (exact sS0)
    · (refine sN (And.intro @metB_at @he) ?_)
      (exact sR (And.intro @boxOk.eq_1 (twiceP_t hi he)))
  · intro hJ
    (refine sN0 ?_)
    (exact sR (And.intro @boxOk.eq_1 @hJ))

def allT (f : Nat → Bool) (n : Nat) : Bool := (List.range n).all f
theorem allT_s {f : Nat → Bool} {k : Nat} (h : allT f k = true) (h2 : f k = true) : allT f (k + 1) = true := by
  unfold allT at *; rw [List.range_succ, List.all_append, h]; simpa using h2
theorem indexT_ac {h : List Blk} {b n : Nat} {f : Nat → Bool} {r : Bool} (hb : h[b]? = some ⟨Ts n f, r⟩) (hn : n ≤ 1048576) : ∃ x : Int, AC Tryz.prog 113 [sl b 0 n 1, .bool false] h (.int .i64 x) h ∧ decide (0 ≤ x) = !allT f n := by
  have hbl := blt hb
  cases ha : allT f n
  · have hex : ∃ i, i < n ∧ f i = false ∧ allT f i = true := by
      clear hb hn hbl
      induction n with
      | zero => cases ha
      | succ n ih =>
        cases hn : allT f n with
        | false => obtain ⟨i, h1, h2, h3⟩ := ih hn; exact ⟨i, by omega, h2, h3⟩
        | true =>
          cases hf : f n with
          | false => exact ⟨n, by omega, hf, hn⟩
          | true => rw [allT_s hn hf] at ha; cases ha
    obtain ⟨i, hi, hf, hall⟩ := hex
    refine ⟨(i : Int), ?_, by simp⟩
    (refine AC_begin (fun _ _ => Tryz.call113 _ _) Tryz.func113 rfl Tryz.ntmps113 Tryz.results113 (fun hwf => ?_); simp only [LCN, Nat.reduceAdd, Nat.reduceSub, List.replicate])
    (refine sN0 ?_)
    refine WA_forH (fun k => [(4, J), (5, J), (8, .int .i64 k), (9, J), (10, J), (11, J), (12, J), (13, J), (14, J), (15, J), (16, J), (17, J), (18, J)]) (fun k => h) (i) ?_ ?_ ?_ <;> (try simp only [PTS])
    · (exact sS0)
    · intro k hk
      have hfk : f k = true := List.all_eq_true.1 hall k (List.mem_range.2 hk)
      (refine sN (And.intro @hb (And.intro @hfk @bft)) ?_)
      (exact sS0)
    · (refine sN (And.intro @hb @hf) ?_)
      (exact sR0)
  · refine ⟨-1, ?_, by simp⟩
    (refine AC_begin (fun _ _ => Tryz.call113 _ _) Tryz.func113 rfl Tryz.ntmps113 Tryz.results113 (fun hwf => ?_); simp only [LCN, Nat.reduceAdd, Nat.reduceSub, List.replicate])
    (refine sN0 ?_)
    refine WA_forH (fun k => [(4, J), (5, J), (8, .int .i64 k), (9, J), (10, J), (11, J), (12, J), (13, J), (14, J), (15, J), (16, J), (17, J), (18, J)]) (fun k => h) (n) ?_ ?_ ?_ <;> (try simp only [PTS])
    · (exact sS0)
    · intro k hk
      have hfk : f k = true := List.all_eq_true.1 ha k (List.mem_range.2 hk)
      (refine sN (And.intro @hb (And.intro @hfk @bft)) ?_)
      (exact sS0)
    · (refine sN0 ?_)
      (exact sR0)
theorem containsT_ac {h : List Blk} {b n : Nat} {f : Nat → Bool} {r : Bool} (hb : h[b]? = some ⟨Ts n f, r⟩) (hn : n ≤ 1048576) : AC Tryz.prog 95 [sl b 0 n 1, .bool false] h (.bool (!allT f n)) h := by
  obtain ⟨x, hx, hx2⟩ := indexT_ac hb hn
  (refine AC_begin (fun _ _ => Tryz.call95 _ _) Tryz.func95 rfl Tryz.ntmps95 Tryz.results95 (fun hwf => ?_); simp only [LCN, Nat.reduceAdd, Nat.reduceSub, List.replicate])
  (refine sW @hx2 @hx ?_)
  (exact sR @hx2)

theorem boxI_ac (f : Nat → UInt8) (h : List Blk) : AC Tryz.prog 64 [.agg (Bs 256 f).toArray] h (.bool (boxOk f)) h := by
  (refine AC_begin (fun _ _ => Tryz.call64 _ _) Tryz.func64 rfl Tryz.ntmps64 Tryz.results64 (fun hwf => ?_); simp only [LCN, Nat.reduceAdd, Nat.reduceSub, List.replicate])
  (refine sN0 ?_)
  refine WA_forP (fun k => [(5, J), (8, .int .i64 k), (9, J), (10, J), (11, J), (12, J), (13, J)]) (fun k => [(1, ⟨Ts 256 (metB f k), true⟩)]) (256) ?_ ?_ ?_ <;> (try simp only [PTS])
  · rw [metB_zero]
    (exact sS0)
  · intro i hi
    have hf := u8_lt (f i)
    (refine sN (And.intro @upd_bool @metB_set) ?_)
    (exact sS0)
  · (refine sY0 @containsT_ac ?_)
    (exact sR (And.intro @Bool.not_not (show allT (metB f 256) 256 = boxOk f from seen_all f)))

def plRange (f : Nat → UInt8) (k : Nat) : Bool := (List.range k).all fun i => decide ((f i).toNat < 16)
def plOk (f : Nat → UInt8) : Bool := plRange f 16 && !twiceP f 16
theorem plRange_s {f : Nat → UInt8} {k : Nat} (h : plRange f k = true) (h2 : (f k).toNat < 16) : plRange f (k + 1) = true := by
  unfold plRange at *; rw [List.range_succ, List.all_append, h]; simpa using h2
theorem plRange_f {f : Nat → UInt8} {k n : Nat} (hk : k < n) (h : 16 ≤ (f k).toNat) : plRange f n = false := by
  cases ha : plRange f n with
  | false => rfl
  | true => have := List.all_eq_true.1 ha k (List.mem_range.2 hk); simp at this; omega
theorem plOk_lt {f : Nat → UInt8} (h : plOk f = true) {i : Nat} (hi : i < 16) : (f i).toNat < 16 := by
  unfold plOk at h
  rw [Bool.and_eq_true] at h
  have := List.all_eq_true.1 h.1 i (List.mem_range.2 hi)
  simpa using this

theorem permS_ac (f : Nat → UInt8) (h : List Blk) : AC Tryz.prog 59 [.agg (Bs 16 f).toArray] h (.bool (plOk f)) h := by
  (refine AC_begin (fun _ _ => Tryz.call59 _ _) Tryz.func59 rfl Tryz.ntmps59 Tryz.results59 (fun hwf => ?_); simp only [LCN, Nat.reduceAdd, Nat.reduceSub, List.replicate])
  (refine sN (@yieldA_at 4 14) ?_)
  refine WA_forPJ (fun k => twiceP f k = false ∧ plRange f k = true) (fun k => [(2, J), (4, .int .i64 k), (6, J), (7, J), (8, J), (9, J), (10, J), (11, J), (12, J), (13, J), (14, J), (15, J), (16, J), (17, J), (18, J), (19, J), (20, J), (21, J), (22, J), (23, J), (24, J)]) (fun k => [(1, ⟨Ts 16 (metB f k), true⟩)]) (16) ?_ ?_ ?_ ?_ <;> (try simp only [PTS])
  · exact ⟨rfl, rfl⟩
  · rw [metB_zero]
    (exact sS0)
  · intro i hi hJ
    rcases Nat.lt_or_ge (f i).toNat 16 with hf | hf
    · have hg : decide ((16 : UInt8) ≤ f i) = false := decide_eq_false (by show ¬ (16 : Nat) ≤ (f i).toNat; omega)
      cases he : twiceAt f i i
      · (refine sN (And.intro @hg (And.intro @metB_at (And.intro @he (And.intro @upd_bool (And.intro @metB_set (@yieldA_at 4 14)))))) ?_)
        refine ⟨⟨twiceP_s hJ.1 he, plRange_s hJ.2 hf⟩, ?_⟩
        (exact sS0)
      · (refine sN (And.intro @hg (And.intro @metB_at (And.intro @he (@yieldA_at 4 14)))) ?_)
        (exact sR (And.intro @plOk.eq_1 (And.intro (twiceP_t hi he) @Bool.and_false)))
    · have hg : decide ((16 : UInt8) ≤ f i) = true := decide_eq_true (by show (16 : Nat) ≤ (f i).toNat; omega)
      (refine sN (And.intro @hg (@yieldA_at 4 14)) ?_)
      (exact sR (And.intro @plOk.eq_1 (And.intro (plRange_f hi hf) @Bool.false_and)))
  · intro hJ
    (refine sN (@yieldA_at 4 14) ?_)
    (exact sR (And.intro @plOk.eq_1 (And.intro @hJ.1 @hJ.2)))

theorem permI_ac (f : Nat → UInt8) (h : List Blk) : AC Tryz.prog 66 [.agg (Bs 16 f).toArray] h (.bool (plOk f)) h := by
  (refine AC_begin (fun _ _ => Tryz.call66 _ _) Tryz.func66 rfl Tryz.ntmps66 Tryz.results66 (fun hwf => ?_); simp only [LCN, Nat.reduceAdd, Nat.reduceSub, List.replicate])
  (refine sN0 ?_)
  refine WA_forPJ (fun k => plRange f k = true) (fun k => [(2, J), (4, J), (6, .int .i64 k), (7, J), (8, J), (9, J), (10, J), (11, J)]) (fun k => []) (16) ?_ ?_ ?_ ?_ <;> (try simp only [PTS])
  · rfl
  · (exact sS0)
  · intro i hi hJ
    rcases Nat.lt_or_ge (f i).toNat 16 with hf | hf
    · have hg : decide ((15 : UInt8) < f i) = false := decide_eq_false (by show ¬ (15 : Nat) < (f i).toNat; omega)
      (refine sN @hg ?_)
      refine ⟨plRange_s hJ hf, ?_⟩
      (exact sS0)
    · have hg : decide ((15 : UInt8) < f i) = true := decide_eq_true (by show (15 : Nat) < (f i).toNat; omega)
      (refine sN @hg ?_)
      (exact sR (And.intro @plOk.eq_1 (And.intro (plRange_f hi hf) @Bool.false_and)))
  · intro hJ
    (refine sY0 @areDifferent_ac ?_)
    (exact sR (And.intro @plOk.eq_1 (And.intro @hJ @Bool.true_and)))

theorem isInvI_ac {m : Nat} (h0 : 256 ≤ m) (h1 : m < 512) (a : Nat → UInt8) (h : List Blk) : AC Tryz.prog 65 [.int .i64 m, .agg (Bs 16 a).toArray] h (.bool (detF m a != 0)) h := by
  (refine AC_begin (fun _ _ => Tryz.call65 _ _) Tryz.func65 rfl Tryz.ntmps65 Tryz.results65 (fun hwf => ?_); simp only [LCN, Nat.reduceAdd, Nat.reduceSub, List.replicate])
  (refine sW0 (redI_ac h0 h1) ?_)
  (exact sR0)

end Go.Proofs.YtenkjbkcdcionaaGreat
/- The parts of networks and of ciphers. -/
namespace Go.Proofs.YtenkjbkcdcionaaGreat
set_option linter.unusedSimpArgs false
set_option linter.unusedVariables false
set_option maxRecDepth 20000
set_option maxHeartbeats 1000000
open Go.Abs

def cipB (m : Int) (bx mx pl : Nat → UInt8) (r : Int) : Bool := fieldB m.toNat && (boxOk bx && (detF m.toNat mx != 0 && (plOk pl && inR r 1 20)))
theorem cipB_nat {m : Int} {bx mx pl : Nat → UInt8} {r : Int} (h : cipB m bx mx pl r = true) : ∃ k : Nat, m = k ∧ 256 ≤ k ∧ k < 512 ∧ fieldB k = true ∧ detF k mx ≠ 0 ∧ plOk pl = true ∧ ∃ n : Nat, r = n ∧ 1 ≤ n ∧ n ≤ 20 := by
  unfold cipB at h
  simp only [Bool.and_eq_true] at h
  obtain ⟨hf, hb, hd, hp, hr⟩ := h
  obtain ⟨k, rfl, h2, h0, h1⟩ := fieldB_nat hf
  unfold inR at hr
  simp only [Bool.and_eq_true, decide_eq_true_eq] at hr
  exact ⟨k, rfl, h0, h1, h2, by simpa using hd, hp, r.toNat, by omega, by omega, by omega⟩

end Go.Proofs.YtenkjbkcdcionaaGreat
/- Draws for the law on matrices. -/
namespace Go.Proofs.YtenkjbkcdcionaaGreat
set_option linter.unusedSimpArgs false
set_option linter.unusedVariables false
set_option maxRecDepth 20000
set_option maxHeartbeats 1000000
open Go.Abs

theorem WA_mid2 {P : Program} {n0 : Nat} {a b c : Code} {Q Q' Q'' : Exit → AS → Prop} {t : List Value} {H : List Blk} (ps : List (Nat × Value)) (H' : List Blk)
    (h : WA P n0 a (Then (WA P n0 b (Then (fun s' => Drop n0 s' ⟨patT t ps, H'⟩) Q')) Q'') ⟨t, H⟩) (h2 : WA P n0 c Q ⟨patT t ps, H'⟩) : WA P n0 a (Then (WA P n0 b (Then (WA P n0 c Q) Q')) Q'') ⟨t, H⟩ :=
  WA_mono h fun e s' hq => by
    cases e <;> first
      | exact WA_mono hq fun e s'' hd => by cases e <;> first | exact WA_pre hd h2 | exact hd
      | exact hq
theorem one_shl {i : Nat} (h : i ≤ 60) : IntKind.i64.wrap (1 * 2 ^ min i 64) = ((1 <<< i : Nat) : Int) := by
  rw [Nat.min_eq_left (by omega), Int.one_mul, pow_cast, Nat.one_shiftLeft]
  refine wrap_N ?_
  exact Nat.lt_of_lt_of_le (Nat.pow_lt_pow_right (n := 61) (by omega) (by omega)) (by omega)
end Go.Proofs.YtenkjbkcdcionaaGreat
/- Roots, traces, quadratic equations, values of polynomials. Plain. -/
namespace Go.Proofs.YtenkjbkcdcionaaGreat
set_option linter.unusedSimpArgs false
set_option linter.unusedVariables false
set_option maxRecDepth 20000
set_option maxHeartbeats 1000000
open Go.Abs

theorem x4 (a b c d : UInt8) : (a ^^^ b) ^^^ (c ^^^ d) = (a ^^^ c) ^^^ (b ^^^ d) := by
  rw [UInt8.xor_assoc, UInt8.xor_assoc, ← UInt8.xor_assoc b c d, ← UInt8.xor_assoc c b d, UInt8.xor_comm b c]
theorem u8_xor_eq {a b : UInt8} (h : a ^^^ b = 0) : a = b := by
  have h2 : (a ^^^ b) ^^^ b = 0 ^^^ b := by rw [h]
  rwa [UInt8.xor_assoc, UInt8.xor_self, UInt8.xor_zero, UInt8.zero_xor] at h2
section
variable {m : Nat} (h0 : 256 ≤ m) (h1 : m < 512)
include h0 h1
variable (hf : fieldB m = true)
include hf
end
def hor (m : Nat) (c : Nat → UInt8) (x : UInt8) (n : Nat) : Nat → UInt8
  | 0 => 0
  | k + 1 => tm m (hor m c x n k) x ^^^ c (n - 1 - k)
section
variable {m : Nat} (h0 : 256 ≤ m) (h1 : m < 512)
include h0 h1
end
end Go.Proofs.YtenkjbkcdcionaaGreat
