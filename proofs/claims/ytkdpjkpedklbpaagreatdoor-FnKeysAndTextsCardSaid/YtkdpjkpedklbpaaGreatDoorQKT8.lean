/- A part of the proof of FnKeysAndTexts. -/
import Derived.Lib.ParseIntB
import Derived.Lib.ParseIntBCases
import Derived.Lib.ItoaNum
import Derived.Lib.ItoaMem
import Derived.Lib.AtoiErrMem
import Derived.Lib.ParseIntBTie
import Derived.WalkKit
import Derived.BigCall
import Derived.Test.YtkdpjkpedklbpaaGreatDoorQKTH
import Derived.Test.YtkdpjkpedklbpaaGreatDoorQKT0
import Derived.Test.YtkdpjkpedklbpaaGreatDoorQKT3
import Derived.Test.YtkdpjkpedklbpaaGreatDoorQKT4
import Derived.Test.YtkdpjkpedklbpaaGreatDoorQKT5
import Derived.Test.YtkdpjkpedklbpaaGreatDoorQKT7
/- Keys lead back; changed bits are from 1 to 128, and one where no round is done. Plain. -/
namespace Go.Proofs.YtkdpjkpedklbpaaGreatDoor
set_option linter.unusedSimpArgs false
set_option linter.unusedVariables false
set_option maxRecDepth 20000
set_option maxHeartbeats 1000000
open Go.Abs

theorem updE (f : Nat → UInt8) (i : Nat) (x : UInt8) : upd f i x i = x := by unfold upd; rw [if_pos rfl]
theorem updN (f : Nat → UInt8) {i j : Nat} (x : UInt8) (h : j ≠ i) : upd f i x j = f j := by unfold upd; rw [if_neg h]
theorem updI (f : Nat → UInt8) {i : Nat} {x : UInt8} (h : x = f i) : upd f i x = f := by
  funext j; unfold upd
  split
  · rename_i e; rw [h, e]
  · rfl
theorem xor_twice (a b : UInt8) : (a ^^^ b) ^^^ b = a := by rw [UInt8.xor_assoc, UInt8.xor_self, UInt8.xor_zero]
/-- The key before is the one before the next. -/
theorem kb_steps (bx y : Nat → UInt8) (rb : UInt8) : ∀ j, j ≤ 15 → kbP bx (nextF bx y rb) j = nkP bx y rb (16 - j)
  | 0, _ => rfl
  | j + 1, h => by
    have ih := kb_steps bx y rb j (by omega)
    obtain ⟨i, hi⟩ : ∃ i, 16 - j = i + 1 + 1 := ⟨14 - j, by omega⟩
    have e1 : 15 - j = i + 1 := by omega
    have e2 : 14 - j = i := by omega
    show upd (kbP bx (nextF bx y rb) j) (15 - j) (kbP bx (nextF bx y rb) j (15 - j) ^^^ bx (kbP bx (nextF bx y rb) j (14 - j)).toNat) = _
    rw [ih, hi, e1, e2, show 16 - (j + 1) = i + 1 by omega, ← nkP_step bx y rb (show i + 1 ≠ 0 by omega), updE, updN _ _ (show i ≠ i + 1 by omega), show i + 1 - 1 = i by omega, xor_twice, upd_upd]
    exact updI _ rfl
theorem kb_next (bx y : Nat → UInt8) (rb : UInt8) : kbF bx (nextF bx y rb) rb = y := by
  unfold kbF
  rw [kb_steps bx y rb 15 (Nat.le_refl _), show 16 - 15 = 1 from rfl, ← nkP_first, updE, updN _ _ (show 15 ≠ 0 by decide), xor_twice, upd_upd]
  exact updI _ rfl
theorem kb_key (bx y : Nat → UInt8) (r : Nat) : kbF bx (kyF bx y (r + 1)) (UInt8.ofNat (r + 1)) = kyF bx y r := kb_next bx _ _
theorem keys_row (bx y : Nat → UInt8) (r : Nat) : Bs 16 (fun t => keysF bx y (r * 16 + t)) = Bs 16 (kyF bx y r) := Bs_congr fun t ht => by
  unfold keysF; rw [show (r * 16 + t) / 16 = r by omega, show (r * 16 + t) % 16 = t by omega]

theorem pow_u8 : ∀ j, j < 8 → UInt8.ofNat (2 ^ j) ≠ 0 ∧ popP (UInt8.ofNat (2 ^ j)).toNat 8 = 1 := by decide +kernel
theorem pop_z : ∀ x, x < 256 → popP x 8 = 0 → x = 0 := by decide +kernel
theorem ones_zero {f : Nat → UInt8} : ∀ k, onesP f k = 0 → ∀ i, i < k → f i = 0
  | 0, _, _, h => absurd h (by omega)
  | k + 1, h, i, hi => by
    unfold onesP at h
    rcases Nat.lt_or_ge i k with hl | hl
    · exact ones_zero k (by omega) i hl
    · obtain rfl : i = k := by omega
      exact UInt8.toNat_inj.1 (pop_z _ (u8_lt (f i)) (by omega))
theorem ones_one {f : Nat → UInt8} {p j : Nat} (hj : j < 8) (he : f p = UInt8.ofNat (2 ^ j)) (h0 : ∀ i, i ≠ p → f i = 0) : ∀ k, onesP f k = if p < k then 1 else 0
  | 0 => by rw [if_neg (by omega)]; rfl
  | k + 1 => by
    have pz : popP (0 : UInt8).toNat 8 = 0 := by decide
    unfold onesP
    rw [ones_one hj he h0 k]
    by_cases h1 : p = k
    · subst h1
      rw [he, (pow_u8 j hj).2, if_neg (by omega), if_pos (by omega)]
    · rw [h0 k (Ne.symm h1), pz]
      by_cases h2 : p < k
      · rw [if_pos h2, if_pos (by omega)]
      · rw [if_neg h2, if_neg (by omega)]
theorem xor4k (a b c d : UInt8) : (a ^^^ b) ^^^ (c ^^^ d) = (a ^^^ c) ^^^ (b ^^^ d) := by
  rw [UInt8.xor_assoc, UInt8.xor_assoc, ← UInt8.xor_assoc b c d, ← UInt8.xor_assoc c b d, UInt8.xor_comm b c]
theorem xor_eqk {a b : UInt8} (h : a ^^^ b = 0) : a = b := by
  have h2 : (a ^^^ b) ^^^ b = 0 ^^^ b := by rw [h]
  rwa [UInt8.xor_assoc, UInt8.xor_self, UInt8.xor_zero, UInt8.zero_xor] at h2
theorem xor_same {x c : UInt8} (h : x ^^^ c = x) : c = 0 := by
  have h2 : x ^^^ (x ^^^ c) = x ^^^ x := by rw [h]
  rwa [← UInt8.xor_assoc, UInt8.xor_self, UInt8.zero_xor] at h2
theorem cbF_lo {m n : Nat} (h0 : 256 ≤ m) (h1 : m < 512) (hf : fieldB m = true) {bx mx pl : Nat → UInt8} (hd : detF m mx ≠ 0) (hp : plOk pl = true) (hb : boxOk bx = true) (y b : Nat → UInt8) {i : Nat} (hi : i < 128) : 1 ≤ cbF m bx mx pl y b n i := by
  unfold cbF
  rcases Nat.eq_zero_or_pos (onesP (xorF (encF m bx mx pl y b n) (encF m bx mx pl y (chF b i) n)) 16) with hz | hz
  · exfalso
    have hq := ones_zero 16 hz
    have hE : ∀ j, j < 16 → encF m bx mx pl y (chF b i) n j = encF m bx mx pl y b n j := fun j hj => (xor_eqk (show encF m bx mx pl y b n j ^^^ encF m bx mx pl y (chF b i) n j = 0 from hq j hj)).symm
    have d1 := decF_encF h0 h1 hf hd hp hb y b n (e := encF m bx mx pl y b n) (fun _ _ => rfl) (i := i / 8) (by omega)
    have d2 := decF_encF h0 h1 hf hd hp hb y (chF b i) n (e := encF m bx mx pl y b n) (fun j hj => (hE j hj).symm) (i := i / 8) (by omega)
    rw [d1] at d2
    unfold chF at d2
    rw [updE] at d2
    exact (pow_u8 (i % 8) (by omega)).1 (xor_same d2.symm)
  · omega
theorem cbF_hi (m n : Nat) (bx mx pl y b : Nat → UInt8) (i : Nat) : cbF m bx mx pl y b n i ≤ 128 := by
  unfold cbF
  have := onesP_le (xorF (encF m bx mx pl y b n) (encF m bx mx pl y (chF b i) n)) 16
  omega
theorem cbF_0 (m : Nat) (bx mx pl y b : Nat → UInt8) {i : Nat} (hi : i < 128) : cbF m bx mx pl y b 0 i = 1 := by
  unfold cbF
  have key : ∀ j, xorF (encF m bx mx pl y b 0) (encF m bx mx pl y (chF b i) 0) j = b j ^^^ chF b i j := fun j => by
    show (b j ^^^ kyF bx y 0 j) ^^^ (chF b i j ^^^ kyF bx y 0 j) = _
    rw [xor4k, UInt8.xor_self, UInt8.xor_zero]
  rw [ones_one (p := i / 8) (j := i % 8) (by omega) (by rw [key]; unfold chF; rw [updE, ← UInt8.xor_assoc, UInt8.xor_self, UInt8.zero_xor]) (fun j hj => by rw [key]; unfold chF; rw [updN _ _ hj, UInt8.xor_self]) 16, if_pos (by omega)]
  rfl
end Go.Proofs.YtkdpjkpedklbpaaGreatDoor
/- Parts of the law on keys and texts: both sides' answers, compared. -/
namespace Go.Proofs.YtkdpjkpedklbpaaGreatDoor
set_option linter.unusedSimpArgs false
set_option linter.unusedVariables false
set_option maxRecDepth 20000
set_option maxHeartbeats 1000000
open Go.Abs

theorem blocks9_nil (h : List Blk) : AC Tryz.prog 8 [.slice none 0 0, .slice none 0 0] h (.bool true) h := by
  (refine AC_begin (fun _ _ => Tryz.call8 _ _) Tryz.func8 rfl Tryz.ntmps8 Tryz.results8 (fun hwf => ?_); simp only [List.length_cons, List.length_nil, Nat.reduceAdd, Nat.reduceSub, List.replicate, List.cons_append, List.nil_append])
  (refine sN0 ?_)
  refine WA_forH (fun k => [(4, J), (5, .int .i64 k), (11, J), (12, J), (13, J), (14, J), (15, J), (16, J), (17, J), (18, J), (19, J), (20, J), (21, J), (22, J), (23, J), (24, J), (25, J)]) (fun k => h) (0) ?_ ?_ ?_ <;> (try simp only [patT_cons, patT_nil, patL_cons, patL_nil, list_set_zero, list_set_succ, blk_set_zero, blk_set_succ])
  · (exact sS0)
  · intro k hk
    omega
  · (refine sN (And.intro (show decide ((0 : Nat) < 0) = false from rfl) (show decide ((0 : Int) < 0) = false from rfl)) ?_)
    (exact sR0)
theorem blocks9_ac {h : List Blk} {b b' n : Nat} {f : Nat → UInt8} {r r' : Bool} (hb : h[b]? = some ⟨Bs (n * 16) f, r⟩) (hb' : h[b']? = some ⟨Bs (n * 16) f, r'⟩) (hn : n ≤ 1000) : AC Tryz.prog 8 [sl b 0 n 16, sl b' 0 n 16] h (.bool true) h := by
  have hbl := blt hb
  have hbl' := blt hb'
  (refine AC_begin (fun _ _ => Tryz.call8 _ _) Tryz.func8 rfl Tryz.ntmps8 Tryz.results8 (fun hwf => ?_); simp only [List.length_cons, List.length_nil, Nat.reduceAdd, Nat.reduceSub, List.replicate, List.cons_append, List.nil_append])
  (refine sN0 ?_)
  refine WA_forH (fun k => [(4, J), (5, .int .i64 k), (11, J), (12, J), (13, J), (14, J), (15, J), (16, J), (17, J), (18, J), (19, J), (20, J), (21, J), (22, J), (23, J), (24, J), (25, J)]) (fun k => h) (n) ?_ ?_ ?_ <;> (try simp only [patT_cons, patT_nil, patL_cons, patL_nil, list_set_zero, list_set_succ, blk_set_zero, blk_set_succ])
  · (exact sS0)
  · intro k hk
    (repeat (first | ((first | (refine And.intro ?_ ?_; focus exact PLA) | refine WA_seq (WA_region ?_) | refine WA_region ?_ | refine WA_exit ?_); try simp (maxSteps := 1000000) (disch := first | omega | rfl | decide | (simp only [List.length_cons, List.length_nil, List.length_append, LV] <;> omega)) only [go_sem, Nat.reduceAdd, Int.reduceAdd, Int.reduceSub, Int.reduceMul, Bool.not_true, Bool.not_false, hb, hb', bne_self_eq_false, eqB_self, Bool.not_true]) | (refine WA_seq (WA_draw (id := 6) mixedOk (by kernel_rfl) ?_); simp (maxSteps := 1000000) (disch := first | omega | rfl | decide | (simp only [List.length_cons, List.length_nil, List.length_append, LV] <;> omega)) only [go_sem, Nat.reduceAdd, Int.reduceAdd, Int.reduceSub, Int.reduceMul, Bool.not_true, Bool.not_false, hb, hb', bne_self_eq_false, eqB_self, Bool.not_true]) | (refine WA_draw (id := 6) mixedOk (by kernel_rfl) ?_; simp (maxSteps := 1000000) (disch := first | omega | rfl | decide | (simp only [List.length_cons, List.length_nil, List.length_append, LV] <;> omega)) only [go_sem, Nat.reduceAdd, Int.reduceAdd, Int.reduceSub, Int.reduceMul, Bool.not_true, Bool.not_false, hb, hb', bne_self_eq_false, eqB_self, Bool.not_true]) | refine WA_seq ?_ | refine WA_block ?_ | (refine WA_skip ?_; try simp only [go_sem]) | (refine WA_ret ?_; try simp only [go_sem]) | refine WA_ct rfl ?_ | refine WA_cf rfl ?_))
    (exact sS0)
  · (refine sN0 ?_)
    (exact sR0)

theorem likeK_nil (h : List Blk) : AC Tryz.prog 18 [.slice none 0 0, .slice none 0 0] h (.bool true) h := by
  (refine AC_begin (fun _ _ => Tryz.call18 _ _) Tryz.func18 rfl Tryz.ntmps18 Tryz.results18 (fun hwf => ?_); simp only [List.length_cons, List.length_nil, Nat.reduceAdd, Nat.reduceSub, List.replicate, List.cons_append, List.nil_append])
  (repeat (first | ((first | (refine And.intro ?_ ?_; focus exact PLA) | refine WA_seq (WA_region ?_) | refine WA_region ?_ | refine WA_exit ?_); try simp (maxSteps := 1000000) (disch := first | omega | rfl | decide | (simp only [List.length_cons, List.length_nil, List.length_append, LV] <;> omega)) only [go_sem, Nat.reduceAdd, Int.reduceAdd, Int.reduceSub, Int.reduceMul, Bool.not_true, Bool.not_false, bne_self_eq_false]) | (refine WA_seq (WA_draw (id := 6) mixedOk (by kernel_rfl) ?_); simp (maxSteps := 1000000) (disch := first | omega | rfl | decide | (simp only [List.length_cons, List.length_nil, List.length_append, LV] <;> omega)) only [go_sem, Nat.reduceAdd, Int.reduceAdd, Int.reduceSub, Int.reduceMul, Bool.not_true, Bool.not_false, bne_self_eq_false]) | (refine WA_draw (id := 6) mixedOk (by kernel_rfl) ?_; simp (maxSteps := 1000000) (disch := first | omega | rfl | decide | (simp only [List.length_cons, List.length_nil, List.length_append, LV] <;> omega)) only [go_sem, Nat.reduceAdd, Int.reduceAdd, Int.reduceSub, Int.reduceMul, Bool.not_true, Bool.not_false, bne_self_eq_false]) | refine WA_seq ?_ | refine WA_block ?_ | (refine WA_skip ?_; try simp only [go_sem]) | (refine WA_ret ?_; try simp only [go_sem]) | refine WA_ct rfl ?_ | refine WA_cf rfl ?_))
  refine WA_forH (fun k => [(4, J), (5, .int .i64 k), (11, J), (12, J), (13, J), (14, J), (15, J), (16, J), (17, J), (18, J), (19, J), (20, J), (21, J), (22, J), (23, J), (24, J), (25, J)]) (fun k => h) (0) ?_ ?_ ?_ <;> (try simp only [patT_cons, patT_nil, patL_cons, patL_nil, list_set_zero, list_set_succ, blk_set_zero, blk_set_succ])
  · (exact sS0)
  · intro k hk
    omega
  · (repeat (first | ((first | (refine And.intro ?_ ?_; focus exact PLA) | refine WA_seq (WA_region ?_) | refine WA_region ?_ | refine WA_exit ?_); try simp (maxSteps := 1000000) (disch := first | omega | rfl | decide | (simp only [List.length_cons, List.length_nil, List.length_append, LV] <;> omega)) only [go_sem, Nat.reduceAdd, Int.reduceAdd, Int.reduceSub, Int.reduceMul, Bool.not_true, Bool.not_false]) | (refine WA_seq (WA_draw (id := 6) mixedOk (by kernel_rfl) ?_); simp (maxSteps := 1000000) (disch := first | omega | rfl | decide | (simp only [List.length_cons, List.length_nil, List.length_append, LV] <;> omega)) only [go_sem, Nat.reduceAdd, Int.reduceAdd, Int.reduceSub, Int.reduceMul, Bool.not_true, Bool.not_false]) | (refine WA_draw (id := 6) mixedOk (by kernel_rfl) ?_; simp (maxSteps := 1000000) (disch := first | omega | rfl | decide | (simp only [List.length_cons, List.length_nil, List.length_append, LV] <;> omega)) only [go_sem, Nat.reduceAdd, Int.reduceAdd, Int.reduceSub, Int.reduceMul, Bool.not_true, Bool.not_false]) | refine WA_seq ?_ | refine WA_block ?_ | (refine WA_skip ?_; try simp only [go_sem]) | (refine WA_ret ?_; try simp only [go_sem]) | refine WA_ct rfl ?_ | refine WA_cf rfl ?_))
    (exact sR0)
theorem likeK_ac {h : List Blk} {b b' n : Nat} {f : Nat → Int} {r r' : Bool} (hb : h[b]? = some ⟨Is n f, r⟩) (hb' : h[b']? = some ⟨Is n f, r'⟩) (hn : n ≤ 1048576) : AC Tryz.prog 18 [sl b 0 n 1, sl b' 0 n 1] h (.bool true) h := by
  have hbl := blt hb
  have hbl' := blt hb'
  (refine AC_begin (fun _ _ => Tryz.call18 _ _) Tryz.func18 rfl Tryz.ntmps18 Tryz.results18 (fun hwf => ?_); simp only [List.length_cons, List.length_nil, Nat.reduceAdd, Nat.reduceSub, List.replicate, List.cons_append, List.nil_append])
  (repeat (first | ((first | (refine And.intro ?_ ?_; focus exact PLA) | refine WA_seq (WA_region ?_) | refine WA_region ?_ | refine WA_exit ?_); try simp (maxSteps := 1000000) (disch := first | omega | rfl | decide | (simp only [List.length_cons, List.length_nil, List.length_append, LV] <;> omega)) only [go_sem, Nat.reduceAdd, Int.reduceAdd, Int.reduceSub, Int.reduceMul, Bool.not_true, Bool.not_false, bne_self_eq_false]) | (refine WA_seq (WA_draw (id := 6) mixedOk (by kernel_rfl) ?_); simp (maxSteps := 1000000) (disch := first | omega | rfl | decide | (simp only [List.length_cons, List.length_nil, List.length_append, LV] <;> omega)) only [go_sem, Nat.reduceAdd, Int.reduceAdd, Int.reduceSub, Int.reduceMul, Bool.not_true, Bool.not_false, bne_self_eq_false]) | (refine WA_draw (id := 6) mixedOk (by kernel_rfl) ?_; simp (maxSteps := 1000000) (disch := first | omega | rfl | decide | (simp only [List.length_cons, List.length_nil, List.length_append, LV] <;> omega)) only [go_sem, Nat.reduceAdd, Int.reduceAdd, Int.reduceSub, Int.reduceMul, Bool.not_true, Bool.not_false, bne_self_eq_false]) | refine WA_seq ?_ | refine WA_block ?_ | (refine WA_skip ?_; try simp only [go_sem]) | (refine WA_ret ?_; try simp only [go_sem]) | refine WA_ct rfl ?_ | refine WA_cf rfl ?_))
  refine WA_forH (fun k => [(4, J), (5, .int .i64 k), (11, J), (12, J), (13, J), (14, J), (15, J), (16, J), (17, J), (18, J), (19, J), (20, J), (21, J), (22, J), (23, J), (24, J), (25, J)]) (fun k => h) (n) ?_ ?_ ?_ <;> (try simp only [patT_cons, patT_nil, patL_cons, patL_nil, list_set_zero, list_set_succ, blk_set_zero, blk_set_succ])
  · (exact sS0)
  · intro k hk
    (repeat (first | ((first | (refine And.intro ?_ ?_; focus exact PLA) | refine WA_seq (WA_region ?_) | refine WA_region ?_ | refine WA_exit ?_); try simp (maxSteps := 1000000) (disch := first | omega | rfl | decide | (simp only [List.length_cons, List.length_nil, List.length_append, LV] <;> omega)) only [go_sem, Nat.reduceAdd, Int.reduceAdd, Int.reduceSub, Int.reduceMul, Bool.not_true, Bool.not_false, hb, hb', bne_self_eq_false]) | (refine WA_seq (WA_draw (id := 6) mixedOk (by kernel_rfl) ?_); simp (maxSteps := 1000000) (disch := first | omega | rfl | decide | (simp only [List.length_cons, List.length_nil, List.length_append, LV] <;> omega)) only [go_sem, Nat.reduceAdd, Int.reduceAdd, Int.reduceSub, Int.reduceMul, Bool.not_true, Bool.not_false, hb, hb', bne_self_eq_false]) | (refine WA_draw (id := 6) mixedOk (by kernel_rfl) ?_; simp (maxSteps := 1000000) (disch := first | omega | rfl | decide | (simp only [List.length_cons, List.length_nil, List.length_append, LV] <;> omega)) only [go_sem, Nat.reduceAdd, Int.reduceAdd, Int.reduceSub, Int.reduceMul, Bool.not_true, Bool.not_false, hb, hb', bne_self_eq_false]) | refine WA_seq ?_ | refine WA_block ?_ | (refine WA_skip ?_; try simp only [go_sem]) | (refine WA_ret ?_; try simp only [go_sem]) | refine WA_ct rfl ?_ | refine WA_cf rfl ?_))
    (exact sS0)
  · (repeat (first | ((first | (refine And.intro ?_ ?_; focus exact PLA) | refine WA_seq (WA_region ?_) | refine WA_region ?_ | refine WA_exit ?_); try simp (maxSteps := 1000000) (disch := first | omega | rfl | decide | (simp only [List.length_cons, List.length_nil, List.length_append, LV] <;> omega)) only [go_sem, Nat.reduceAdd, Int.reduceAdd, Int.reduceSub, Int.reduceMul, Bool.not_true, Bool.not_false]) | (refine WA_seq (WA_draw (id := 6) mixedOk (by kernel_rfl) ?_); simp (maxSteps := 1000000) (disch := first | omega | rfl | decide | (simp only [List.length_cons, List.length_nil, List.length_append, LV] <;> omega)) only [go_sem, Nat.reduceAdd, Int.reduceAdd, Int.reduceSub, Int.reduceMul, Bool.not_true, Bool.not_false]) | (refine WA_draw (id := 6) mixedOk (by kernel_rfl) ?_; simp (maxSteps := 1000000) (disch := first | omega | rfl | decide | (simp only [List.length_cons, List.length_nil, List.length_append, LV] <;> omega)) only [go_sem, Nat.reduceAdd, Int.reduceAdd, Int.reduceSub, Int.reduceMul, Bool.not_true, Bool.not_false]) | refine WA_seq ?_ | refine WA_block ?_ | (refine WA_skip ?_; try simp only [go_sem]) | (refine WA_ret ?_; try simp only [go_sem]) | refine WA_ct rfl ?_ | refine WA_cf rfl ?_))
    (exact sR0)
/-- The keys of rounds. -/
theorem kor_op (m r : Int) (bx mx pl y : Nat → UInt8) (h : List Blk) : ∃ (vI vS : Value) (code : Int) (H1 H2 : List Blk), (∃ A, H1 = h ++ A) ∧ (∃ A, H2 = H1 ++ A) ∧
    AC Tryz.prog 6 [.agg (Ci m bx mx pl r).toArray, .agg (Bs 16 y).toArray] h (.tuple #[vI, .int .i64 code]) H1 ∧ AC Tryz.prog 7 [.agg (Ci m bx mx pl r).toArray, .agg (Bs 16 y).toArray] H1 (.tuple #[vS, .int .i64 code]) H2 ∧
    AC Tryz.prog 8 [vI, vS] H2 (.bool true) H2 ∧ (isTup vI = false ∧ isTup vS = false) ∧ ((code == 0) = false ∨ (code = 0 ∧ cipB m bx mx pl r = true ∧ ∃ b q : Nat, q ≤ 20 ∧ r = q ∧ vI = sl b 0 (q + 1) 16 ∧ H2[b]? = some ⟨Bs ((q + 1) * 16) (keysF bx y), true⟩)) := by
  cases hc : cipB m bx mx pl r
  · exact ⟨_, _, 1, h, h, ⟨[], (List.append_nil h).symm⟩, ⟨[], (List.append_nil h).symm⟩, keysOI_bad hc y h, keysOS_bad hc y h, blocks9_nil h, ⟨rfl, rfl⟩, .inl rfl⟩
  · obtain ⟨_, _, _, _, _, _, _, n, rfl, _, hn⟩ := cipB_nat hc
    have g0 : (h ++ [(⟨Bs ((n + 1) * 16) (keysF bx y), true⟩ : Blk)] ++ [⟨Bs ((n + 1) * 16) (keysF bx y), true⟩])[h.length]? = some ⟨Bs ((n + 1) * 16) (keysF bx y), true⟩ := by simp
    have g1 : (h ++ [(⟨Bs ((n + 1) * 16) (keysF bx y), true⟩ : Blk)] ++ [⟨Bs ((n + 1) * 16) (keysF bx y), true⟩])[(h ++ [(⟨Bs ((n + 1) * 16) (keysF bx y), true⟩ : Blk)]).length]? = some ⟨Bs ((n + 1) * 16) (keysF bx y), true⟩ := by simp
    exact ⟨_, _, 0, _, _, ⟨_, rfl⟩, ⟨_, rfl⟩, keysOI_ok hc hn y h, keysOS_ok hc hn y _, blocks9_ac g0 g1 (by omega), ⟨rfl, rfl⟩, .inr ⟨rfl, rfl, h.length, n, hn, rfl, rfl, g0⟩⟩
/-- Lists of blocks enciphered. -/
theorem eca_op (m r : Int) (bx mx pl y : Nat → UInt8) {h : List Blk} {b n : Nat} {f : Nat → UInt8} (hb : h[b]? = some ⟨Bs (n * 16) f, true⟩) (hn : n ≤ 101) : ∃ (vI vS : Value) (code : Int) (H1 H2 : List Blk), (∃ A, H1 = h ++ A) ∧ (∃ A, H2 = H1 ++ A) ∧
    AC Tryz.prog 13 [.agg (Ci m bx mx pl r).toArray, .agg (Bs 16 y).toArray, sl b 0 n 16] h (.tuple #[vI, .int .i64 code]) H1 ∧ AC Tryz.prog 14 [.agg (Ci m bx mx pl r).toArray, .agg (Bs 16 y).toArray, sl b 0 n 16] H1 (.tuple #[vS, .int .i64 code]) H2 ∧
    AC Tryz.prog 8 [vI, vS] H2 (.bool true) H2 ∧ (isTup vI = false ∧ isTup vS = false) := by
  cases hc : cipB m bx mx pl r
  · exact ⟨_, _, 1, h, h, ⟨[], (List.append_nil h).symm⟩, ⟨[], (List.append_nil h).symm⟩, allOI_no hc y b n h, allOS_no hc y b n h, blocks9_nil h, ⟨rfl, rfl⟩⟩
  · rcases Nat.lt_or_ge 100 n with hl | hl
    · exact ⟨_, _, 2, h, h, ⟨[], (List.append_nil h).symm⟩, ⟨[], (List.append_nil h).symm⟩, allOI_long hc y b hl (by omega) h, allOS_long hc y b hl (by omega) h, blocks9_nil h, ⟨rfl, rfl⟩⟩
    · obtain ⟨k, rfl, h0, h1, _, _, hp, q, rfl, _, hq⟩ := cipB_nat hc
      have g0 : (h ++ [(⟨Bs (n * 16) (eaF k bx mx pl y f q), true⟩ : Blk)] ++ [⟨Bs (n * 16) (eaF k bx mx pl y f q), true⟩])[h.length]? = some ⟨Bs (n * 16) (eaF k bx mx pl y f q), true⟩ := by simp
      have g1 : (h ++ [(⟨Bs (n * 16) (eaF k bx mx pl y f q), true⟩ : Blk)] ++ [⟨Bs (n * 16) (eaF k bx mx pl y f q), true⟩])[(h ++ [(⟨Bs (n * 16) (eaF k bx mx pl y f q), true⟩ : Blk)]).length]? = some ⟨Bs (n * 16) (eaF k bx mx pl y f q), true⟩ := by simp
      exact ⟨_, _, 0, _, _, ⟨_, rfl⟩, ⟨_, rfl⟩, allOI_ok h0 h1 hc hp hq y hb hl, allOS_ok h0 h1 hc hp hq y (look_old hb _) hl, blocks9_ac g0 g1 (by omega), ⟨rfl, rfl⟩⟩
/-- Changed bits. -/
theorem chb_op (m r : Int) (bx mx pl y s : Nat → UInt8) (n : Int) (h : List Blk) : ∃ (vI vS : Value) (code : Int) (H1 H2 : List Blk), (∃ A, H1 = h ++ A) ∧ (∃ A, H2 = H1 ++ A) ∧
    AC Tryz.prog 16 [.agg (Ci m bx mx pl r).toArray, .agg (Bs 16 y).toArray, .agg (Bs 16 s).toArray, .int .i64 n] h (.tuple #[vI, .int .i64 code]) H1 ∧ AC Tryz.prog 17 [.agg (Ci m bx mx pl r).toArray, .agg (Bs 16 y).toArray, .agg (Bs 16 s).toArray, .int .i64 n] H1 (.tuple #[vS, .int .i64 code]) H2 ∧
    AC Tryz.prog 18 [vI, vS] H2 (.bool true) H2 ∧ (isTup vI = false ∧ isTup vS = false) ∧ (vI = .slice none 0 0 ∨ ∃ (b : Nat) (F : Nat → Int), vI = sl b 0 128 1 ∧ H2[b]? = some ⟨Is 128 F, true⟩ ∧ ∀ i, i < 128 → 1 ≤ F i ∧ F i ≤ 128 ∧ (n = 0 → F i = 1)) := by
  have bad : ∀ c : Int, codeN m bx mx pl r n = c → (c != 0) = true → _ := fun c hc h1 =>
    (⟨_, _, c, h, h, ⟨[], (List.append_nil h).symm⟩, ⟨[], (List.append_nil h).symm⟩, chbI_no hc h1 y s h, chbS_no hc h1 y s h, likeK_nil h, ⟨rfl, rfl⟩, .inl rfl⟩ : ∃ (vI vS : Value) (code : Int) (H1 H2 : List Blk), (∃ A, H1 = h ++ A) ∧ (∃ A, H2 = H1 ++ A) ∧
    AC Tryz.prog 16 [.agg (Ci m bx mx pl r).toArray, .agg (Bs 16 y).toArray, .agg (Bs 16 s).toArray, .int .i64 n] h (.tuple #[vI, .int .i64 code]) H1 ∧ AC Tryz.prog 17 [.agg (Ci m bx mx pl r).toArray, .agg (Bs 16 y).toArray, .agg (Bs 16 s).toArray, .int .i64 n] H1 (.tuple #[vS, .int .i64 code]) H2 ∧
    AC Tryz.prog 18 [vI, vS] H2 (.bool true) H2 ∧ (isTup vI = false ∧ isTup vS = false) ∧ (vI = .slice none 0 0 ∨ ∃ (b : Nat) (F : Nat → Int), vI = sl b 0 128 1 ∧ H2[b]? = some ⟨Is 128 F, true⟩ ∧ ∀ i, i < 128 → 1 ≤ F i ∧ F i ≤ 128 ∧ (n = 0 → F i = 1)))
  cases hc : cipB m bx mx pl r
  · exact bad 1 (codeN_bad hc n) rfl
  · cases hr : inR n 0 r
    · exact bad 2 (codeN_out hc hr) rfl
    · have hk := codeN_ok hc hr
      obtain ⟨p, rfl, h0, h1, hf, hd, hp, q, rfl, _, hq⟩ := cipB_nat hc
      obtain ⟨k, rfl, hkq⟩ := inR_up hr
      have hk2 : k ≤ 20 := by omega
      have hb : boxOk bx = true := by unfold cipB at hc; simp only [Bool.and_eq_true] at hc; exact hc.2.1
      have g0 : (h ++ [(⟨Is 128 (cbF p bx mx pl y s k), true⟩ : Blk)] ++ [⟨Is 128 (cbF p bx mx pl y s k), true⟩])[h.length]? = some ⟨Is 128 (cbF p bx mx pl y s k), true⟩ := by simp
      have g1 : (h ++ [(⟨Is 128 (cbF p bx mx pl y s k), true⟩ : Blk)] ++ [⟨Is 128 (cbF p bx mx pl y s k), true⟩])[(h ++ [(⟨Is 128 (cbF p bx mx pl y s k), true⟩ : Blk)]).length]? = some ⟨Is 128 (cbF p bx mx pl y s k), true⟩ := by simp
      refine ⟨_, _, 0, _, _, ⟨_, rfl⟩, ⟨_, rfl⟩, chbI_ok h0 h1 hp hk hk2 y s h, chbS_ok h0 h1 hp hk hk2 y s _, likeK_ac g0 g1 (by omega), ⟨rfl, rfl⟩, .inr ⟨h.length, _, rfl, g0, fun i hi => ⟨cbF_lo h0 h1 hf hd hp hb y s hi, cbF_hi p k bx mx pl y s i, fun e => ?_⟩⟩⟩
      obtain rfl : k = 0 := by omega
      exact cbF_0 p bx mx pl y s hi

end Go.Proofs.YtkdpjkpedklbpaaGreatDoor
/- Numerals: which texts decimal writes, and what strconv.ParseInt reads there. Plain. -/
namespace Go.Proofs.YtkdpjkpedklbpaaGreatDoor
set_option linter.unusedSimpArgs false
set_option linter.unusedVariables false
set_option maxRecDepth 20000
set_option maxHeartbeats 1000000
open Go.Abs

theorem head_app {l m : List UInt8} (h : l ≠ []) : (l ++ m).head? = l.head? := by
  cases l with
  | nil => exact absurd rfl h
  | cons a l => rfl
def isDig (c : UInt8) : Bool := decide (48 ≤ c.toNat) && decide (c.toNat ≤ 57)
def valL (a : Nat) : List UInt8 → Nat
  | [] => a
  | c :: r => valL (a * 10 + (c.toNat - 48)) r
theorem valL_snoc (c : UInt8) : ∀ (l : List UInt8) (a : Nat), valL a (l ++ [c]) = valL a l * 10 + (c.toNat - 48)
  | [], _ => rfl
  | _ :: l, _ => valL_snoc c l _
theorem isDig_iff {c : UInt8} : isDig c = true ↔ 48 ≤ c.toNat ∧ c.toNat ≤ 57 := by unfold isDig; rw [Bool.and_eq_true, decide_eq_true_eq, decide_eq_true_eq]
theorem valL_lt : ∀ (l : List UInt8) (a k : Nat), l.all isDig = true → a < 10 ^ k → valL a l < 10 ^ (k + l.length)
  | [], _, _, _, h => h
  | c :: l, a, k, hd, h => by
    rw [List.all_cons, Bool.and_eq_true] at hd
    have hc := isDig_iff.1 hd.1
    have := valL_lt l (a * 10 + (c.toNat - 48)) (k + 1) hd.2 (by rw [Nat.pow_succ]; omega)
    rw [List.length_cons, show k + (l.length + 1) = k + 1 + l.length by omega]; exact this
theorem pow_le9 {k : Nat} (h : k ≤ 9) : 10 ^ k ≤ 1000000000 := Nat.pow_le_pow_right (n := 10) (by decide) h
theorem pu_ok : ∀ (l : List UInt8) (a k : Nat), l.all isDig = true → a < 10 ^ k → k + l.length ≤ 9 → Lib.parseUintM (2 ^ 64 - 1) a l = .ok (valL a l)
  | [], _, _, _, _, _ => rfl
  | c :: l, a, k, hd, h, hk => by
    rw [List.all_cons, Bool.and_eq_true] at hd
    have hc := isDig_iff.1 hd.1
    rw [List.length_cons] at hk
    have hp := pow_le9 (show k ≤ 9 by omega)
    rw [Lib.parseUintM, if_pos hc, if_neg (by omega), if_neg (by omega)]
    exact pu_ok l _ (k + 1) hd.2 (by rw [Nat.pow_succ]; omega) (by omega)
/-- Whether a text is a numeral as decimal writes it, of at most nine digits. -/
def numL (l : List UInt8) : Bool := !l.isEmpty && (decide (l.length ≤ 9) && ((decide (l.length ≤ 1) || l.head? != some 48) && l.all isDig))
theorem numL_iff {l : List UInt8} : numL l = true ↔ l ≠ [] ∧ l.length ≤ 9 ∧ (l.length ≤ 1 ∨ l.head? ≠ some 48) ∧ l.all isDig = true := by
  unfold numL
  simp only [Bool.and_eq_true, Bool.or_eq_true, decide_eq_true_eq, bne_iff_ne, Bool.not_eq_true', List.isEmpty_eq_false_iff]
theorem dec_step {u : Nat} (h : ¬ u < 10) : Lib.decDigits u = Lib.decDigits (u / 10) ++ [UInt8.ofNat (48 + u % 10)] := by
  conv => lhs; rw [Lib.decDigits, dif_neg h]
theorem dg_dig {i : Nat} (h : i < 10) : isDig (UInt8.ofNat (48 + i)) = true := isDig_iff.2 (by rw [UInt8.toNat_ofNat', Nat.mod_eq_of_lt (by omega)]; omega)
theorem dec_good (n : Nat) : ∀ u, u ≤ n → Lib.decDigits u ≠ [] ∧ (Lib.decDigits u).all isDig = true ∧ (1 ≤ u → (Lib.decDigits u).head? ≠ some 48) ∧ (10 ≤ u → 2 ≤ (Lib.decDigits u).length) := by
  induction n with
  | zero =>
    intro u hu
    obtain rfl : u = 0 := by omega
    rw [Lib.decDigits_one (by decide)]
    exact ⟨by simp, by decide, by omega, by omega⟩
  | succ n ih =>
    intro u hu
    by_cases h : u < 10
    · rw [Lib.decDigits_one h]
      refine ⟨by simp, ?_, fun h1 e => ?_, by omega⟩
      · rw [List.all_cons, dg_dig h]; rfl
      · have e2 : UInt8.ofNat (48 + u) = 48 := Option.some.inj e
        have := congrArg UInt8.toNat e2
        rw [UInt8.toNat_ofNat', Nat.mod_eq_of_lt (by omega), show (48 : UInt8).toNat = 48 from rfl] at this
        omega
    · obtain ⟨h1, h2, h3, _⟩ := ih (u / 10) (by omega)
      rw [dec_step h]
      have hl : 1 ≤ (Lib.decDigits (u / 10)).length := List.length_pos_iff.2 h1
      refine ⟨by simp, ?_, fun _ => ?_, fun _ => by rw [List.length_append]; exact Nat.succ_le_succ hl⟩
      · rw [List.all_append, h2, List.all_cons, dg_dig (Nat.mod_lt _ (by decide))]; rfl
      · rw [head_app h1]; exact h3 (by omega)
theorem val_pos : ∀ (l : List UInt8), l ≠ [] → l.head? ≠ some 48 → l.all isDig = true → 1 ≤ valL 0 l
  | [], h, _, _ => absurd rfl h
  | c :: l, _, h, hd => by
    rw [List.all_cons, Bool.and_eq_true] at hd
    have hc := isDig_iff.1 hd.1
    have hne : c.toNat ≠ 48 := fun e => h (by rw [List.head?_cons]; exact congrArg some (UInt8.toNat_inj.1 e))
    have mono : ∀ (l : List UInt8) (a : Nat), a ≤ valL a l := by
      intro l
      induction l with
      | nil => exact fun a => Nat.le_refl _
      | cons x l ih => exact fun a => Nat.le_trans (by omega) (ih (a * 10 + (x.toNat - 48)))
    exact Nat.le_trans (by omega) (mono l (0 * 10 + (c.toNat - 48)))
theorem dec_val (n : Nat) : ∀ l : List UInt8, l.length ≤ n → l ≠ [] → (l.length ≤ 1 ∨ l.head? ≠ some 48) → l.all isDig = true → Lib.decDigits (valL 0 l) = l := by
  induction n with
  | zero => exact fun l hl hn => absurd (List.length_eq_zero_iff.1 (by omega)) hn
  | succ n ih =>
    intro l hl hn h0 hd
    obtain ⟨l', c, rfl⟩ : ∃ l' c, l = l' ++ [c] := ⟨l.dropLast, l.getLast hn, (List.dropLast_concat_getLast hn).symm⟩
    rw [List.all_append, Bool.and_eq_true, List.all_cons, Bool.and_eq_true] at hd
    have hc := isDig_iff.1 hd.2.1
    have hcc : ∀ m, m % 10 = c.toNat - 48 → UInt8.ofNat (48 + m % 10) = c := fun m e => by rw [e, show 48 + (c.toNat - 48) = c.toNat by omega, UInt8.ofNat_toNat]
    rw [valL_snoc]
    by_cases hl' : l' = []
    · subst hl'
      rw [show valL 0 [] = 0 from rfl, Nat.zero_mul, Nat.zero_add, Lib.decDigits_one (by omega), show 48 + (c.toNat - 48) = c.toNat by omega, UInt8.ofNat_toNat]; rfl
    · have hp : 1 ≤ l'.length := List.length_pos_iff.2 hl'
      have hh : l'.head? ≠ some 48 := by
        rcases h0 with h0 | h0
        · rw [List.length_append] at h0
          have : ([c] : List UInt8).length = 1 := rfl
          omega
        · rwa [head_app hl'] at h0
      have hv := val_pos l' hl' hh hd.1
      rw [dec_step (by omega), hcc _ (by omega), show (valL 0 l' * 10 + (c.toNat - 48)) / 10 = valL 0 l' by omega, ih l' (by rw [List.length_append] at hl; exact Nat.le_of_succ_le_succ hl) hl' (.inr hh) hd.1]
theorem num_ok {l : List UInt8} (h : numL l = true) : Lib.parseIntB 64 l = .ok (valL 0 l) ∧ Lib.itoa (valL 0 l) = l := by
  obtain ⟨hn, h9, h0, hd⟩ := numL_iff.1 h
  have hlt := valL_lt l 0 0 hd (by decide)
  have hp := pow_le9 (show 0 + l.length ≤ 9 by omega)
  refine ⟨?_, by rw [Lib.itoa_nonneg, dec_val _ l (Nat.le_refl _) hn h0 hd]⟩
  cases l with
  | nil => exact absurd rfl hn
  | cons c r =>
    have hd' := hd
    rw [List.all_cons, Bool.and_eq_true] at hd'
    have hc := isDig_iff.1 hd'.1
    rw [Lib.parseIntB_plain 64 c r (by omega) (by omega)]
    unfold Lib.parseUintB
    rw [if_neg hn, pu_ok (c :: r) 0 0 hd (by decide) (by omega)]
    unfold Lib.signlessC
    simp only
    first | (rw [if_neg (by omega)]) | (rw [if_pos (by omega)])
theorem num_of {l : List UInt8} {v : Int} (h0 : 0 ≤ v) (h9 : l.length ≤ 9) (hi : Lib.itoa v = l) : numL l = true := by
  obtain ⟨u, rfl⟩ : ∃ u : Nat, v = u := ⟨v.toNat, by omega⟩
  rw [Lib.itoa_nonneg] at hi
  obtain ⟨g1, g2, g3, g4⟩ := dec_good u u (Nat.le_refl _)
  rw [hi] at g1 g2 g3 g4
  refine numL_iff.2 ⟨g1, h9, ?_, g2⟩
  by_cases h : u < 10
  · exact .inl (by rw [← hi, Lib.decDigits_one h]; exact Nat.le_refl _)
  · exact .inr (g3 (by omega))
end Go.Proofs.YtkdpjkpedklbpaaGreatDoor
/- impl.readDecimal: what it returns, at every text: walked over the machine's own worlds, as strconv.ParseInt's contracts are said there. -/
namespace Go.Proofs.YtkdpjkpedklbpaaGreatDoor
set_option linter.unusedSimpArgs false
set_option linter.unusedVariables false
set_option maxRecDepth 20000
set_option maxHeartbeats 1000000
open Go.Abs Go.RowKit

set_option maxRecDepth 100000 in
theorem decimal_calls {n : Int} (h0 : -9223372036854775808 ≤ n) (h1 : n ≤ 9223372036854775807) (w : World) (hd : doorOk w) : Calls Tryz.prog 57 #[.int .i64 n] w fun e w' => e = .returned (.string (dT n)) ∧ Below w.heap.size w w' := by
  go_enter Tryz.func57, Tryz.ntmps57
  go_wp2_with (go_at_call 98; refine (Tryz.strconv_FormatInt_10 n h0 h1 _ hd.pow10).mono ?_; rintro e w' ⟨rfl, k, os, rfl⟩)
  go_ret
  exact ⟨rfl, Lib.below_grow _ w (Nat.le_refl _) k os⟩

def numB (s : ByteArray) : Bool := numL s.data.toList
def numV (s : ByteArray) : Int := if numB s then ((valL 0 s.data.toList : Nat) : Int) else 0
theorem numB_no {s : ByteArray} (h : ∀ v, Lib.parseIntB 64 s.data.toList ≠ .ok v) : numB s = false := by
  unfold numB
  cases hb : numL s.data.toList with
  | false => rfl
  | true => exact absurd (num_ok hb).1 (h _)
theorem sz_l (s : ByteArray) : s.size = s.data.toList.length := by rw [Array.length_toList]; rfl
theorem dT_l (v : Int) : (dT v).data.toList = Lib.itoa v := rfl
theorem str_ne {a b : ByteArray} (h : (!(a.toList == b.toList)) = true) : a ≠ b := fun e => by
  subst e
  rw [beq_self_eq_true] at h
  cases h
theorem str_eq {a b : ByteArray} (h : (!(a.toList == b.toList)) = false) : a = b := by
  have h1 : (a.toList == b.toList) = true := by
    cases hb : (a.toList == b.toList) with
    | true => rfl
    | false => rw [hb] at h; cases h
  have h2 := eq_of_beq h1
  rw [ByteArray.toList_eq, ByteArray.toList_eq] at h2
  cases a; cases b
  exact congrArg ByteArray.mk (Array.ext' h2)
theorem rd_no {s : ByteArray} {v : Int} (h : Lib.parseIntB 64 s.data.toList = .ok v) (hc : v < 0 ∨ 9 < s.size ∨ dT v ≠ s) : numB s = false := by
  unfold numB
  cases hb : numL s.data.toList with
  | false => rfl
  | true =>
    obtain ⟨h1, h2⟩ := num_ok hb
    have e : v = ((valL 0 s.data.toList : Nat) : Int) := by rw [h] at h1; exact Lib.NumEnd.ok.inj h1
    have h9 := (numL_iff.1 hb).2.1
    rw [← sz_l] at h9
    rcases hc with hc | hc | hc
    · omega
    · omega
    · refine absurd ?_ hc
      rw [e]; unfold dT; rw [h2]
theorem rd_yes {s : ByteArray} {v : Int} (h : Lib.parseIntB 64 s.data.toList = .ok v) (h0 : 0 ≤ v) (h9 : s.size ≤ 9) (he : dT v = s) : numB s = true ∧ numV s = v := by
  have hb : numB s = true := num_of h0 (by rw [← sz_l]; exact h9) (by rw [← dT_l, he])
  refine ⟨hb, ?_⟩
  unfold numV
  rw [if_pos hb]
  have h1 := (num_ok hb).1
  rw [h] at h1
  exact (Lib.NumEnd.ok.inj h1).symm
set_option maxRecDepth 100000 in
theorem rd_calls {s : ByteArray} (hs : s.size ≤ 1048576) (w : World) (hd : doorOk w) : Calls Tryz.prog 50 #[.string s] w fun e w' => e = .returned (.tuple #[.int .i64 (numV s), .bool (numB s)]) ∧ Below w.heap.size w w' := by
  cases h : Lib.parseIntB 64 s.data.toList with
  | «syntax» =>
    have hb := numB_no (s := s) (fun v e => by rw [h] at e; cases e)
    unfold numV
    rw [hb, if_neg (by decide)]
    obtain ⟨t, p, hm⟩ := hd.errSyntax
    go_enter Tryz.func50, Tryz.ntmps50
    go_wp2_with (go_at_call 89; refine (Tryz.strconv_ParseInt_10_at64_syntax s (by omega) h _ _ hm (.inr ⟨_, _, rfl⟩)).mono ?_)
    rintro e W1 ⟨N, rfl, -, -, hb⟩
    go_wp2
    go_ret2
    exact ⟨rfl, hb⟩
  | range =>
    have hb := numB_no (s := s) (fun v e => by rw [h] at e; cases e)
    unfold numV
    rw [hb, if_neg (by decide)]
    obtain ⟨t, p, hm⟩ := hd.errRange
    go_enter Tryz.func50, Tryz.ntmps50
    go_wp2_with (go_at_call 89; refine (Tryz.strconv_ParseInt_10_at64_range s (by omega) h _ _ hm (.inr ⟨_, _, rfl⟩)).mono ?_)
    rintro e W1 ⟨N, rfl, -, -, hb⟩
    go_wp2
    go_ret2
    exact ⟨rfl, hb⟩
  | ok v =>
    have hr := Lib.parseIntB_bounds h
    have hw : ∀ W1, (W1 = w ∨ ∃ t, W1 = Lib.bytesWorld w 5 t) → Below w.heap.size w W1 := by
      rintro W1 (rfl | ⟨t, rfl⟩)
      · exact Below.refl _ _
      · exact Lib.bytesWorld_below _ _ _
    go_enter Tryz.func50, Tryz.ntmps50
    have hdoor : ∀ W1, (W1 = w ∨ ∃ t, W1 = Lib.bytesWorld w 5 t) → doorOk W1 := fun W1 h1 => hd.keep (hw W1 h1).size (fun i hi => (hw W1 h1).block i (Nat.lt_of_lt_of_le hi hd.lt))
    go_wp2_with (first | (go_at_call 89; refine (Tryz.strconv_ParseInt_10_at64_ok s (by omega) v h _).mono ?_; rintro e W1 ⟨rfl, hw1⟩) | (go_at_call 57; refine (decimal_calls (n := v) (by omega) (by omega) _ (hdoor _ (by assumption))).mono ?_; rintro e W2 ⟨rfl, hb2⟩))
    · rename_i h0 h9 _ hb2 hc
      have hb := rd_no h (by rcases hc with (hc | hc) | hc <;> first | omega | exact .inr (.inr (str_ne hc)))
      unfold numV
      rw [hb, if_neg (by decide)]
      go_ret2
      exact ⟨rfl, (hw _ (by assumption)).trans (hb2.mono (hw _ (by assumption)).size)⟩
    · rename_i hc
      obtain ⟨hb, hv⟩ := rd_yes h hc.1.1 (by omega) (str_eq hc.2)
      rw [hb, hv]
      go_wp2
      go_ret2
      exact ⟨rfl, (hw _ (by assumption)).trans (hb2.mono (hw _ (by assumption)).size)⟩
    · rename_i h9
      have hb := rd_no h (.inr (.inl (by omega)))
      unfold numV
      rw [hb, if_neg (by decide)]
      go_ret2
      exact ⟨rfl, hw _ (by assumption)⟩
    · rename_i h0
      have hb := rd_no h (.inl h0)
      unfold numV
      rw [hb, if_neg (by decide)]
      go_ret2
      exact ⟨rfl, hw _ (by assumption)⟩
theorem rd_ac {s : ByteArray} (hs : s.size ≤ 1048576) (h : List Blk) : AC Tryz.prog 50 [.string s] h (.tuple #[.int .i64 (numV s), .bool (numB s)]) h := by
  refine AC_below (fun _ _ => Tryz.call50 _ _) rfl fun E w args' hH hA => ?_
  obtain ⟨hl, hg⟩ := hA
  obtain ⟨l⟩ := args'
  match l, hl, hg with
  | [u], _, hg =>
    have hu : u = .string s := hg 0 _ _ rfl rfl
    subst hu
    exact rd_calls hs w hH.door

end Go.Proofs.YtkdpjkpedklbpaaGreatDoor
/- Numerals: the reference's reading. -/
namespace Go.Proofs.YtkdpjkpedklbpaaGreatDoor
set_option linter.unusedSimpArgs false
set_option linter.unusedVariables false
set_option maxRecDepth 20000
set_option maxHeartbeats 1000000
open Go.Abs

def vP (s : ByteArray) (k : Nat) : Nat := valL 0 (s.data.toList.take k)
theorem ch_list {s : ByteArray} {i : Nat} (h : i < s.size) : s.data.toList[i]? = some (ch s i) := by
  have h' : i < s.data.size := h
  unfold ch
  rw [Array.getElem?_toList, Array.getD_eq_getD_getElem?, Array.getElem?_eq_getElem h']; rfl
theorem take_s {s : ByteArray} {k : Nat} (h : k < s.size) : s.data.toList.take (k + 1) = s.data.toList.take k ++ [ch s k] := by
  rw [List.take_add_one, ch_list h]; rfl
theorem vP_s {s : ByteArray} {k : Nat} (h : k < s.size) : vP s (k + 1) = vP s k * 10 + ((ch s k).toNat - 48) := by
  unfold vP; rw [take_s h, valL_snoc]
theorem take_all {s : ByteArray} : ∀ k, k ≤ s.size → (s.data.toList.take k).all isDig = allT (fun i => isDig (ch s i)) k
  | 0, _ => rfl
  | k + 1, h => by
    have ih := take_all (s := s) k (by omega)
    unfold allT at ih ⊢
    rw [take_s (by omega), List.all_append, ih, List.range_succ, List.all_append]
    simp only [List.all_cons, List.all_nil]
theorem vP_lt {s : ByteArray} {k : Nat} (hk : k ≤ s.size) (h9 : s.size ≤ 9) (hd : allT (fun i => isDig (ch s i)) k = true) : vP s k < 1000000000 := by
  have h1 := valL_lt (s.data.toList.take k) 0 0 (by rw [take_all k hk]; exact hd) (by decide)
  have h2 : (s.data.toList.take k).length ≤ 9 := by rw [List.length_take]; omega
  exact Nat.lt_of_lt_of_le h1 (pow_le9 (by omega))
theorem list_all {s : ByteArray} : s.data.toList.all isDig = allT (fun i => isDig (ch s i)) s.size := by
  rw [← take_all s.size (Nat.le_refl _), List.take_of_length_le (by rw [← sz_l]; exact Nat.le_refl _)]
theorem head_ch {s : ByteArray} (h : 0 < s.size) : s.data.toList.head? = some (ch s 0) := by
  rw [List.head?_eq_getElem?, ch_list h]
theorem num_bad {s : ByteArray} (h : s.size = 0 ∨ 9 < s.size ∨ (1 < s.size ∧ ch s 0 = 48)) : numB s = false := by
  unfold numB
  cases hb : numL s.data.toList with
  | false => rfl
  | true =>
    obtain ⟨h1, h2, h3, _⟩ := numL_iff.1 hb
    have h4 := List.length_pos_iff.2 h1
    rw [← sz_l] at h2 h3 h4
    rcases h with h | h | ⟨h, hc⟩
    · omega
    · omega
    · rcases h3 with h3 | h3
      · omega
      · rw [head_ch h4, hc] at h3; exact absurd rfl h3
theorem num_bad2 {s : ByteArray} (h : allT (fun i => isDig (ch s i)) s.size = false) : numB s = false := by
  unfold numB
  cases hb : numL s.data.toList with
  | false => rfl
  | true =>
    have h4 := (numL_iff.1 hb).2.2.2
    rw [list_all, h] at h4; cases h4
theorem num_good {s : ByteArray} (h0 : s.size ≠ 0) (h9 : s.size ≤ 9) (h1 : s.size ≤ 1 ∨ ch s 0 ≠ 48) (h : allT (fun i => isDig (ch s i)) s.size = true) : numB s = true ∧ numV s = ((vP s s.size : Nat) : Int) := by
  have hb : numB s = true := by
    unfold numB
    refine numL_iff.2 ⟨fun e => h0 (by rw [sz_l, e]; rfl), by rw [← sz_l]; exact h9, ?_, by rw [list_all]; exact h⟩
    rw [← sz_l, head_ch (by omega)]
    exact h1.imp id (fun h e => h (Option.some.inj e))
  refine ⟨hb, ?_⟩
  unfold numV vP
  rw [if_pos hb, List.take_of_length_le (by rw [← sz_l]; exact Nat.le_refl _)]
/-- What the reference's reading returns. -/
def numN (s : ByteArray) : Int := if numB s then numV s else -1
attribute [local irreducible] ch vP
theorem lnA_ac {s : ByteArray} (hs : s.size = 0) (h : List Blk) : AC Tryz.prog 93 [.string s] h (.int .i64 (numN s)) h := by
  have e0 : (s.size == 0) = true := by rw [hs]; rfl
  unfold numN
  rw [num_bad (.inl hs), if_neg (by decide)]
  (refine AC_begin (fun _ _ => Tryz.call93 _ _) Tryz.func93 rfl Tryz.ntmps93 Tryz.results93 (fun hwf => ?_); simp only [List.length_cons, List.length_nil, Nat.reduceAdd, Nat.reduceSub, List.replicate, List.cons_append, List.nil_append])
  (refine sN (And.intro @e0 (And.intro (@yieldA_at 3 8) (And.intro (@yieldA_at 4 33) (And.intro (@yieldA_at 8 13) (@yieldA_at 12 17))))) ?_)
  (exact sR0)
theorem lnB_ac {s : ByteArray} (hs : 9 < s.size) (hm : s.size ≤ 1048576) (h : List Blk) : AC Tryz.prog 93 [.string s] h (.int .i64 (numN s)) h := by
  have e0 : (s.size == 0) = false := by rw [beq_eq_false_iff_ne]; omega
  have e9 : decide ((9 : Int) < ((s.size : Nat) : Int)) = true := decide_eq_true (by omega)
  have e9' : decide (9 < s.size) = true := decide_eq_true hs
  unfold numN
  rw [num_bad (.inr (.inl hs)), if_neg (by decide)]
  (refine AC_begin (fun _ _ => Tryz.call93 _ _) Tryz.func93 rfl Tryz.ntmps93 Tryz.results93 (fun hwf => ?_); simp only [List.length_cons, List.length_nil, Nat.reduceAdd, Nat.reduceSub, List.replicate, List.cons_append, List.nil_append])
  (refine sN (And.intro @e0 (And.intro @e9 (And.intro @e9' (And.intro (@yieldA_at 3 8) (And.intro (@yieldA_at 4 33) (And.intro (@yieldA_at 8 13) (@yieldA_at 12 17))))))) ?_)
  (exact sR0)
theorem lnC_ac {s : ByteArray} (hs : 1 < s.size) (h9 : s.size ≤ 9) (hc : ch s 0 = 48) (h : List Blk) : AC Tryz.prog 93 [.string s] h (.int .i64 (numN s)) h := by
  have e0 : (s.size == 0) = false := by rw [beq_eq_false_iff_ne]; omega
  have e9 : decide ((9 : Int) < ((s.size : Nat) : Int)) = false := decide_eq_false (by omega)
  have e9' : decide (9 < s.size) = false := decide_eq_false (by omega)
  have e1 : decide ((1 : Int) < ((s.size : Nat) : Int)) = true := decide_eq_true (by omega)
  have e1' : decide (1 < s.size) = true := decide_eq_true hs
  have ec : (ch s 0 == 48) = true := by rw [hc]; rfl
  unfold numN
  rw [num_bad (.inr (.inr ⟨hs, hc⟩)), if_neg (by decide)]
  (refine AC_begin (fun _ _ => Tryz.call93 _ _) Tryz.func93 rfl Tryz.ntmps93 Tryz.results93 (fun hwf => ?_); simp only [List.length_cons, List.length_nil, Nat.reduceAdd, Nat.reduceSub, List.replicate, List.cons_append, List.nil_append])
  (refine sN (And.intro @e0 (And.intro @e9 (And.intro @e9' (And.intro @e1 (And.intro @e1' (And.intro @ch_is (And.intro @ec (And.intro (@yieldA_at 3 8) (And.intro (@yieldA_at 4 33) (And.intro (@yieldA_at 8 13) (@yieldA_at 12 17))))))))))) ?_)
  (exact sR0)
theorem vP_0 (s : ByteArray) : vP s 0 = 0 := by unfold vP; rfl
theorem allT_pre {f : Nat → Bool} {n k : Nat} (h : allT f n = true) (hk : k ≤ n) : allT f k = true := List.all_eq_true.2 fun i hi => allT_get h (Nat.lt_of_lt_of_le (List.mem_range.1 hi) hk)
theorem c48 {c : UInt8} (h : 48 ≤ c.toNat) : (c - 48).toNat = c.toNat - 48 := UInt8.toNat_sub_of_le _ _ (UInt8.le_iff_toNat_le.2 h)
theorem stepN {s : ByteArray} {k : Nat} (hk : k < s.size) (h : vP s k < 1000000000) : IntKind.i64.wrap (((vP s k : Nat) : Int) * 10) = ((vP s k * 10 : Nat) : Int) ∧ IntKind.i64.wrap (((vP s k * 10 : Nat) : Int) + (((ch s k).toNat - 48 : Nat) : Int)) = ((vP s (k + 1) : Nat) : Int) := by
  have hc := u8_lt (ch s k)
  refine ⟨by rw [show ((vP s k : Nat) : Int) * 10 = ((vP s k * 10 : Nat) : Int) by omega]; exact wrap_N (by omega), ?_⟩
  rw [vP_s hk, show ((vP s k * 10 : Nat) : Int) + (((ch s k).toNat - 48 : Nat) : Int) = ((vP s k * 10 + ((ch s k).toNat - 48) : Nat) : Int) by omega]
  exact wrap_N (by omega)
abbrev hdC (s : ByteArray) : UInt8 := ch s 0
abbrev zrC (_ : ByteArray) : UInt8 := 0
theorem stepM {s : ByteArray} {k : Nat} (hk : k < s.size) : ((vP s k * 10 : Nat) : Int) + (((ch s k).toNat - 48 : Nat) : Int) = ((vP s (k + 1) : Nat) : Int) := by rw [vP_s hk]; omega
theorem lnD_ok {s : ByteArray} (h0 : s.size ≠ 0) (h9 : s.size ≤ 9) (e1 : decide ((1 : Int) < ((s.size : Nat) : Int)) = false) (e1' : decide (1 < s.size) = false) (ec : (zrC s == 48) = false) (h1 : s.size ≤ 1 ∨ ch s 0 ≠ 48) (hall : allT (fun i => isDig (ch s i)) s.size = true) (h : List Blk) : AC Tryz.prog 93 [.string s] h (.int .i64 (numN s)) h := by
  have e0 : (s.size == 0) = false := by rw [beq_eq_false_iff_ne]; exact h0
  have e9 : decide ((9 : Int) < ((s.size : Nat) : Int)) = false := decide_eq_false (by omega)
  have e9' : decide (9 < s.size) = false := decide_eq_false (by omega)
  obtain ⟨hb, hv⟩ := num_good h0 h9 h1 hall
  unfold numN
  rw [hb, if_pos rfl, hv]
  (refine AC_begin (fun _ _ => Tryz.call93 _ _) Tryz.func93 rfl Tryz.ntmps93 Tryz.results93 (fun hwf => ?_); simp only [List.length_cons, List.length_nil, Nat.reduceAdd, Nat.reduceSub, List.replicate, List.cons_append, List.nil_append])
  (refine sN (And.intro @e0 (And.intro @e9 (And.intro @e9' (And.intro @e1 (And.intro @e1' (And.intro @ch_is (And.intro @ec (And.intro (@yieldA_at 3 8) (And.intro (@yieldA_at 4 33) (And.intro (@yieldA_at 8 13) (@yieldA_at 12 17))))))))))) ?_)
  refine WA_forH (fun k => [(2, J), (3, .int .i64 ((vP s k : Nat) : Int)), (4, .int .i64 k), (23, J), (24, J), (25, J), (26, J), (27, J), (28, J), (29, J), (30, J), (31, J), (32, J), (33, J), (34, J), (35, J), (36, J), (37, J), (38, J), (39, J), (40, J), (41, J), (42, J), (43, J), (44, J), (45, J), (46, J)]) (fun k => h) (s.size) ?_ ?_ ?_ <;> (try simp only [patT_cons, patT_nil, patL_cons, patL_nil, list_set_zero, list_set_succ, blk_set_zero, blk_set_succ])
  · (exact sS @vP_0)
  · intro k hk
    have hd := isDig_iff.1 (allT_get hall hk)
    have a1 : decide (ch s k < 48) = false := decide_eq_false (fun h => by have := UInt8.lt_iff_toNat_lt.1 h; have e : (48 : UInt8).toNat = 48 := rfl; omega)
    have a2 : decide (57 < ch s k) = false := decide_eq_false (fun h => by have := UInt8.lt_iff_toNat_lt.1 h; have e : (57 : UInt8).toNat = 57 := rfl; omega)
    obtain ⟨m1, m3⟩ := stepN hk (vP_lt (by omega) h9 (allT_pre hall (by omega)))
    have m2 := c48 hd.1
    have m5 := stepM (s := s) (k := k) (by omega)
    have hlt := vP_lt (k := k) (by omega) h9 (allT_pre hall (by omega))
    have m1b : IntKind.i64.wrap ((vP s k * 10 : Nat) : Int) = ((vP s k * 10 : Nat) : Int) := wrap_N (by omega)
    have m4 : IntKind.i64.wrap (((ch s k).toNat - 48 : Nat) : Int) = (((ch s k).toNat - 48 : Nat) : Int) := wrap_N (by omega)
    (refine sN (And.intro @ch_is (And.intro @a1 (And.intro @a2 (And.intro @m1 (And.intro @m1b (And.intro @m2 (And.intro @m4 (And.intro @m3 (And.intro @m5 (And.intro (@yieldA_at 3 8) (And.intro (@yieldA_at 4 33) (And.intro (@yieldA_at 8 13) (@yieldA_at 12 17))))))))))))) ?_)
    (exact sS0)
  · (refine sN (And.intro (@yieldA_at 3 8) (And.intro (@yieldA_at 4 33) (And.intro (@yieldA_at 8 13) (@yieldA_at 12 17)))) ?_)
    (exact sR0)
theorem lnD_no {s : ByteArray} (h0 : s.size ≠ 0) (h9 : s.size ≤ 9) (e1 : decide ((1 : Int) < ((s.size : Nat) : Int)) = false) (e1' : decide (1 < s.size) = false) (ec : (zrC s == 48) = false) (hall : allT (fun i => isDig (ch s i)) s.size = false) (h : List Blk) : AC Tryz.prog 93 [.string s] h (.int .i64 (numN s)) h := by
  have e0 : (s.size == 0) = false := by rw [beq_eq_false_iff_ne]; exact h0
  have e9 : decide ((9 : Int) < ((s.size : Nat) : Int)) = false := decide_eq_false (by omega)
  have e9' : decide (9 < s.size) = false := decide_eq_false (by omega)
  unfold numN
  rw [num_bad2 hall, if_neg (by decide)]
  obtain ⟨m, hm, hf, hall⟩ := allT_first hall
  (refine AC_begin (fun _ _ => Tryz.call93 _ _) Tryz.func93 rfl Tryz.ntmps93 Tryz.results93 (fun hwf => ?_); simp only [List.length_cons, List.length_nil, Nat.reduceAdd, Nat.reduceSub, List.replicate, List.cons_append, List.nil_append])
  (refine sN (And.intro @e0 (And.intro @e9 (And.intro @e9' (And.intro @e1 (And.intro @e1' (And.intro @ch_is (And.intro @ec (And.intro (@yieldA_at 3 8) (And.intro (@yieldA_at 4 33) (And.intro (@yieldA_at 8 13) (@yieldA_at 12 17))))))))))) ?_)
  refine WA_forH (fun k => [(2, J), (3, .int .i64 ((vP s k : Nat) : Int)), (4, .int .i64 k), (23, J), (24, J), (25, J), (26, J), (27, J), (28, J), (29, J), (30, J), (31, J), (32, J), (33, J), (34, J), (35, J), (36, J), (37, J), (38, J), (39, J), (40, J), (41, J), (42, J), (43, J), (44, J), (45, J), (46, J)]) (fun k => h) (m) ?_ ?_ ?_ <;> (try simp only [patT_cons, patT_nil, patL_cons, patL_nil, list_set_zero, list_set_succ, blk_set_zero, blk_set_succ])
  · (exact sS @vP_0)
  · intro k hk
    have hd := isDig_iff.1 (allT_get hall hk)
    have hk' : k < s.size := by omega
    have a1 : decide (ch s k < 48) = false := decide_eq_false (fun h => by have := UInt8.lt_iff_toNat_lt.1 h; have e : (48 : UInt8).toNat = 48 := rfl; omega)
    have a2 : decide (57 < ch s k) = false := decide_eq_false (fun h => by have := UInt8.lt_iff_toNat_lt.1 h; have e : (57 : UInt8).toNat = 57 := rfl; omega)
    obtain ⟨m1, m3⟩ := stepN hk' (vP_lt (by omega) h9 (allT_pre hall (by omega)))
    have m2 := c48 hd.1
    have m5 := stepM (s := s) (k := k) (by omega)
    have hlt := vP_lt (k := k) (by omega) h9 (allT_pre hall (by omega))
    have m1b : IntKind.i64.wrap ((vP s k * 10 : Nat) : Int) = ((vP s k * 10 : Nat) : Int) := wrap_N (by omega)
    have m4 : IntKind.i64.wrap (((ch s k).toNat - 48 : Nat) : Int) = (((ch s k).toNat - 48 : Nat) : Int) := wrap_N (by omega)
    (refine sN (And.intro @ch_is (And.intro @a1 (And.intro @a2 (And.intro @m1 (And.intro @m1b (And.intro @m2 (And.intro @m4 (And.intro @m3 (And.intro @m5 (And.intro (@yieldA_at 3 8) (And.intro (@yieldA_at 4 33) (And.intro (@yieldA_at 8 13) (@yieldA_at 12 17))))))))))))) ?_)
    (exact sS0)
  · by_cases hl : ch s m < 48
    · have a1 : decide (ch s m < 48) = true := decide_eq_true hl
      (refine sN (And.intro @ch_is (And.intro @a1 (And.intro (@yieldA_at 3 8) (And.intro (@yieldA_at 4 33) (And.intro (@yieldA_at 8 13) (@yieldA_at 12 17)))))) ?_)
      (exact sR0)
    · have a1 : decide (ch s m < 48) = false := decide_eq_false hl
      have a2 : decide (57 < ch s m) = true := decide_eq_true (UInt8.lt_iff_toNat_lt.2 (by
        have e : (57 : UInt8).toNat = 57 := rfl
        have h48 : 48 ≤ (ch s m).toNat := by
          rcases Nat.lt_or_ge (ch s m).toNat 48 with h | h
          · exact absurd (UInt8.lt_iff_toNat_lt.2 (show (ch s m).toNat < (48 : UInt8).toNat from h)) hl
          · exact h
        rcases Nat.lt_or_ge (57 : UInt8).toNat (ch s m).toNat with h | h
        · exact h
        · have := isDig_iff.2 ⟨h48, by omega⟩
          rw [hf] at this; cases this))
      (refine sN (And.intro @ch_is (And.intro @a1 (And.intro @a2 (And.intro (@yieldA_at 3 8) (And.intro (@yieldA_at 4 33) (And.intro (@yieldA_at 8 13) (@yieldA_at 12 17))))))) ?_)
      (exact sR0)
theorem lnE_ok {s : ByteArray} (h0 : s.size ≠ 0) (h9 : s.size ≤ 9) (e1 : decide ((1 : Int) < ((s.size : Nat) : Int)) = true) (e1' : decide (1 < s.size) = true) (ec : (hdC s == 48) = false) (h1 : s.size ≤ 1 ∨ ch s 0 ≠ 48) (hall : allT (fun i => isDig (ch s i)) s.size = true) (h : List Blk) : AC Tryz.prog 93 [.string s] h (.int .i64 (numN s)) h := by
  have e0 : (s.size == 0) = false := by rw [beq_eq_false_iff_ne]; exact h0
  have e9 : decide ((9 : Int) < ((s.size : Nat) : Int)) = false := decide_eq_false (by omega)
  have e9' : decide (9 < s.size) = false := decide_eq_false (by omega)
  obtain ⟨hb, hv⟩ := num_good h0 h9 h1 hall
  unfold numN
  rw [hb, if_pos rfl, hv]
  (refine AC_begin (fun _ _ => Tryz.call93 _ _) Tryz.func93 rfl Tryz.ntmps93 Tryz.results93 (fun hwf => ?_); simp only [List.length_cons, List.length_nil, Nat.reduceAdd, Nat.reduceSub, List.replicate, List.cons_append, List.nil_append])
  (refine sN (And.intro @e0 (And.intro @e9 (And.intro @e9' (And.intro @e1 (And.intro @e1' (And.intro @ch_is (And.intro @ec (And.intro (@yieldA_at 3 8) (And.intro (@yieldA_at 4 33) (And.intro (@yieldA_at 8 13) (@yieldA_at 12 17))))))))))) ?_)
  refine WA_forH (fun k => [(2, J), (3, .int .i64 ((vP s k : Nat) : Int)), (4, .int .i64 k), (23, J), (24, J), (25, J), (26, J), (27, J), (28, J), (29, J), (30, J), (31, J), (32, J), (33, J), (34, J), (35, J), (36, J), (37, J), (38, J), (39, J), (40, J), (41, J), (42, J), (43, J), (44, J), (45, J), (46, J)]) (fun k => h) (s.size) ?_ ?_ ?_ <;> (try simp only [patT_cons, patT_nil, patL_cons, patL_nil, list_set_zero, list_set_succ, blk_set_zero, blk_set_succ])
  · (exact sS @vP_0)
  · intro k hk
    have hd := isDig_iff.1 (allT_get hall hk)
    have a1 : decide (ch s k < 48) = false := decide_eq_false (fun h => by have := UInt8.lt_iff_toNat_lt.1 h; have e : (48 : UInt8).toNat = 48 := rfl; omega)
    have a2 : decide (57 < ch s k) = false := decide_eq_false (fun h => by have := UInt8.lt_iff_toNat_lt.1 h; have e : (57 : UInt8).toNat = 57 := rfl; omega)
    obtain ⟨m1, m3⟩ := stepN hk (vP_lt (by omega) h9 (allT_pre hall (by omega)))
    have m2 := c48 hd.1
    have m5 := stepM (s := s) (k := k) (by omega)
    have hlt := vP_lt (k := k) (by omega) h9 (allT_pre hall (by omega))
    have m1b : IntKind.i64.wrap ((vP s k * 10 : Nat) : Int) = ((vP s k * 10 : Nat) : Int) := wrap_N (by omega)
    have m4 : IntKind.i64.wrap (((ch s k).toNat - 48 : Nat) : Int) = (((ch s k).toNat - 48 : Nat) : Int) := wrap_N (by omega)
    (refine sN (And.intro @ch_is (And.intro @a1 (And.intro @a2 (And.intro @m1 (And.intro @m1b (And.intro @m2 (And.intro @m4 (And.intro @m3 (And.intro @m5 (And.intro (@yieldA_at 3 8) (And.intro (@yieldA_at 4 33) (And.intro (@yieldA_at 8 13) (@yieldA_at 12 17))))))))))))) ?_)
    (exact sS0)
  · (refine sN (And.intro (@yieldA_at 3 8) (And.intro (@yieldA_at 4 33) (And.intro (@yieldA_at 8 13) (@yieldA_at 12 17)))) ?_)
    (exact sR0)
theorem lnE_no {s : ByteArray} (h0 : s.size ≠ 0) (h9 : s.size ≤ 9) (e1 : decide ((1 : Int) < ((s.size : Nat) : Int)) = true) (e1' : decide (1 < s.size) = true) (ec : (hdC s == 48) = false) (hall : allT (fun i => isDig (ch s i)) s.size = false) (h : List Blk) : AC Tryz.prog 93 [.string s] h (.int .i64 (numN s)) h := by
  have e0 : (s.size == 0) = false := by rw [beq_eq_false_iff_ne]; exact h0
  have e9 : decide ((9 : Int) < ((s.size : Nat) : Int)) = false := decide_eq_false (by omega)
  have e9' : decide (9 < s.size) = false := decide_eq_false (by omega)
  unfold numN
  rw [num_bad2 hall, if_neg (by decide)]
  obtain ⟨m, hm, hf, hall⟩ := allT_first hall
  (refine AC_begin (fun _ _ => Tryz.call93 _ _) Tryz.func93 rfl Tryz.ntmps93 Tryz.results93 (fun hwf => ?_); simp only [List.length_cons, List.length_nil, Nat.reduceAdd, Nat.reduceSub, List.replicate, List.cons_append, List.nil_append])
  (refine sN (And.intro @e0 (And.intro @e9 (And.intro @e9' (And.intro @e1 (And.intro @e1' (And.intro @ch_is (And.intro @ec (And.intro (@yieldA_at 3 8) (And.intro (@yieldA_at 4 33) (And.intro (@yieldA_at 8 13) (@yieldA_at 12 17))))))))))) ?_)
  refine WA_forH (fun k => [(2, J), (3, .int .i64 ((vP s k : Nat) : Int)), (4, .int .i64 k), (23, J), (24, J), (25, J), (26, J), (27, J), (28, J), (29, J), (30, J), (31, J), (32, J), (33, J), (34, J), (35, J), (36, J), (37, J), (38, J), (39, J), (40, J), (41, J), (42, J), (43, J), (44, J), (45, J), (46, J)]) (fun k => h) (m) ?_ ?_ ?_ <;> (try simp only [patT_cons, patT_nil, patL_cons, patL_nil, list_set_zero, list_set_succ, blk_set_zero, blk_set_succ])
  · (exact sS @vP_0)
  · intro k hk
    have hd := isDig_iff.1 (allT_get hall hk)
    have hk' : k < s.size := by omega
    have a1 : decide (ch s k < 48) = false := decide_eq_false (fun h => by have := UInt8.lt_iff_toNat_lt.1 h; have e : (48 : UInt8).toNat = 48 := rfl; omega)
    have a2 : decide (57 < ch s k) = false := decide_eq_false (fun h => by have := UInt8.lt_iff_toNat_lt.1 h; have e : (57 : UInt8).toNat = 57 := rfl; omega)
    obtain ⟨m1, m3⟩ := stepN hk' (vP_lt (by omega) h9 (allT_pre hall (by omega)))
    have m2 := c48 hd.1
    have m5 := stepM (s := s) (k := k) (by omega)
    have hlt := vP_lt (k := k) (by omega) h9 (allT_pre hall (by omega))
    have m1b : IntKind.i64.wrap ((vP s k * 10 : Nat) : Int) = ((vP s k * 10 : Nat) : Int) := wrap_N (by omega)
    have m4 : IntKind.i64.wrap (((ch s k).toNat - 48 : Nat) : Int) = (((ch s k).toNat - 48 : Nat) : Int) := wrap_N (by omega)
    (refine sN (And.intro @ch_is (And.intro @a1 (And.intro @a2 (And.intro @m1 (And.intro @m1b (And.intro @m2 (And.intro @m4 (And.intro @m3 (And.intro @m5 (And.intro (@yieldA_at 3 8) (And.intro (@yieldA_at 4 33) (And.intro (@yieldA_at 8 13) (@yieldA_at 12 17))))))))))))) ?_)
    (exact sS0)
  · by_cases hl : ch s m < 48
    · have a1 : decide (ch s m < 48) = true := decide_eq_true hl
      (refine sN (And.intro @ch_is (And.intro @a1 (And.intro (@yieldA_at 3 8) (And.intro (@yieldA_at 4 33) (And.intro (@yieldA_at 8 13) (@yieldA_at 12 17)))))) ?_)
      (exact sR0)
    · have a1 : decide (ch s m < 48) = false := decide_eq_false hl
      have a2 : decide (57 < ch s m) = true := decide_eq_true (UInt8.lt_iff_toNat_lt.2 (by
        have e : (57 : UInt8).toNat = 57 := rfl
        have h48 : 48 ≤ (ch s m).toNat := by
          rcases Nat.lt_or_ge (ch s m).toNat 48 with h | h
          · exact absurd (UInt8.lt_iff_toNat_lt.2 (show (ch s m).toNat < (48 : UInt8).toNat from h)) hl
          · exact h
        rcases Nat.lt_or_ge (57 : UInt8).toNat (ch s m).toNat with h | h
        · exact h
        · have := isDig_iff.2 ⟨h48, by omega⟩
          rw [hf] at this; cases this))
      (refine sN (And.intro @ch_is (And.intro @a1 (And.intro @a2 (And.intro (@yieldA_at 3 8) (And.intro (@yieldA_at 4 33) (And.intro (@yieldA_at 8 13) (@yieldA_at 12 17))))))) ?_)
      (exact sR0)
theorem lnum_ac {s : ByteArray} (hm : s.size ≤ 1048576) (h : List Blk) : AC Tryz.prog 93 [.string s] h (.int .i64 (numN s)) h := by
  by_cases h0 : s.size = 0
  · exact lnA_ac h0 h
  by_cases h9 : 9 < s.size
  · exact lnB_ac h9 hm h
  by_cases h1 : 1 < s.size
  · by_cases hc : ch s 0 = 48
    · exact lnC_ac h1 (by omega) hc h
    · have ec : (ch s 0 == 48) = false := by rw [beq_eq_false_iff_ne]; exact hc
      cases hall : allT (fun i => isDig (ch s i)) s.size
      · exact lnE_no h0 (by omega) (decide_eq_true (by omega)) (decide_eq_true h1) ec hall h
      · exact lnE_ok h0 (by omega) (decide_eq_true (by omega)) (decide_eq_true h1) ec (.inr hc) hall h
  · cases hall : allT (fun i => isDig (ch s i)) s.size
    · exact lnD_no h0 (by omega) (decide_eq_false (by omega)) (decide_eq_false h1) rfl hall h
    · exact lnD_ok h0 (by omega) (decide_eq_false (by omega)) (decide_eq_false h1) rfl (.inl (by omega)) hall h

end Go.Proofs.YtkdpjkpedklbpaaGreatDoor
/- Ciphers of texts: the reference. -/
namespace Go.Proofs.YtkdpjkpedklbpaaGreatDoor
set_option linter.unusedSimpArgs false
set_option linter.unusedVariables false
set_option maxRecDepth 20000
set_option maxHeartbeats 1000000
open Go.Abs

theorem cip_num {s t : ByteArray} {bx mx pl : Nat → UInt8} (h : numB s = false ∨ numB t = false) : cipB (numN s) bx mx pl (numN t) = false := by
  have e : ∀ {s : ByteArray}, numB s = false → numN s = -1 := fun h => by unfold numN; rw [h]; rfl
  unfold cipB
  rcases h with h | h
  · rw [e h]; rfl
  · rw [e h]
    have : inR (-1) 1 20 = false := rfl
    rw [this]
    simp only [Bool.and_false]
def pcOk (s : ByteArray) : Bool := decide ((spA s 47).length = 5) && ((hexOk (pcF s 1) && (hexOk (pcF s 2) && hexOk (pcF s 3))) && ((pcF s 1).size / 2 == 256 && ((pcF s 2).size / 2 == 16 && (pcF s 3).size / 2 == 16)))
/-- The rows of a text's matrix. -/
def mxV (s : ByteArray) : Nat → UInt8 := pre (4 * 4) (unV (pcF s 2)) zeroF
/-- Whether a text is a cipher's, and the cipher. -/
def rdOk (s : ByteArray) : Bool := pcOk s && cipB (numN (pcF s 0)) (unV (pcF s 1)) (mxV s) (unV (pcF s 3)) (numN (pcF s 4))
def rdC (s : ByteArray) : Int := if rdOk s then 0 else 6
def rdM (s : ByteArray) : Int := if rdOk s then numN (pcF s 0) else 0
def rdR (s : ByteArray) : Int := if rdOk s then numN (pcF s 4) else 0
def rdX (s : ByteArray) : Nat → UInt8 := if rdOk s then unV (pcF s 1) else zeroF
def rdY (s : ByteArray) : Nat → UInt8 := if rdOk s then mxV s else zeroF
def rdP (s : ByteArray) : Nat → UInt8 := if rdOk s then unV (pcF s 3) else zeroF
attribute [local irreducible] ch unV pcF spA hexOk numN
theorem lr_len {s : ByteArray} (hs : s.size ≤ 1048576) (h5 : (spA s 47).length ≠ 5) (h : List Blk) : AC Tryz.prog 53 [.string s] h (.tuple #[.agg (Ci 0 zeroF zeroF zeroF 0).toArray, .bool false]) h := by
  have hl := spA_le s 47
  have hne : (((spA s 47).length : Nat) != 5) = true := by rw [bne_iff_ne]; exact h5
  (refine AC_begin (fun _ _ => Tryz.call53 _ _) Tryz.func53 rfl Tryz.ntmps53 Tryz.results53 (fun hwf => ?_); simp only [List.length_cons, List.length_nil, Nat.reduceAdd, Nat.reduceSub, List.replicate, List.cons_append, List.nil_append])
  (refine sW (And.intro @hne (And.intro (@yieldA_at 2 42) (And.intro (@yieldA_at 6 46) (And.intro (@yieldA_at 10 50) (And.intro (@yieldA_at 15 55) (@yieldA_at 20 60)))))) (splitS_ac 47 hs) ?_)
  (exact sR @zeroF.eq_1)

theorem lr0_bad {s : ByteArray} (hs : s.size ≤ 1048576) (h5 : (spA s 47).length = 5) (h1 : hexOk (pcF s 1) = false) (h2 : hexOk (pcF s 2) = false) (h3 : hexOk (pcF s 3) = false) (h : List Blk) : AC Tryz.prog 53 [.string s] h (.tuple #[.agg (Ci 0 zeroF zeroF zeroF 0).toArray, .bool false]) h := by
  have hget : ∀ q, q < 5 → (Ss (spA s 47))[q]? = some (.string (pcF s q)) := fun q hq => pc_get (by omega)
  have hz : ∀ q, (pcF s q).size ≤ 1048576 := fun q => Nat.le_trans pcF_le hs
  (refine AC_begin (fun _ _ => Tryz.call53 _ _) Tryz.func53 rfl Tryz.ntmps53 Tryz.results53 (fun hwf => ?_); simp only [List.length_cons, List.length_nil, Nat.reduceAdd, Nat.reduceSub, List.replicate, List.cons_append, List.nil_append])
  (refine sW (And.intro @h5 (And.intro (hget 1 (by decide)) (And.intro (hget 2 (by decide)) (And.intro (hget 3 (by decide)) (And.intro (@yieldA_at 2 42) (And.intro (@yieldA_at 6 46) (And.intro (@yieldA_at 10 50) (And.intro (@yieldA_at 15 55) (@yieldA_at 20 60))))))))) (And.intro (splitS_ac 47 hs) (And.intro (fromS_no (hz 1) h1) (And.intro (fromS_no (hz 2) h2) (fromS_no (hz 3) h3)))) ?_)
  (exact sR @zeroF.eq_1)
theorem lr1_bad {s : ByteArray} (hs : s.size ≤ 1048576) (h5 : (spA s 47).length = 5) (h1 : hexOk (pcF s 1) = false) (h2 : hexOk (pcF s 2) = false) (h3 : hexOk (pcF s 3) = true) (h : List Blk) : AC Tryz.prog 53 [.string s] h (.tuple #[.agg (Ci 0 zeroF zeroF zeroF 0).toArray, .bool false]) h := by
  have hget : ∀ q, q < 5 → (Ss (spA s 47))[q]? = some (.string (pcF s q)) := fun q hq => pc_get (by omega)
  have hz : ∀ q, (pcF s q).size ≤ 1048576 := fun q => Nat.le_trans pcF_le hs
  (refine AC_begin (fun _ _ => Tryz.call53 _ _) Tryz.func53 rfl Tryz.ntmps53 Tryz.results53 (fun hwf => ?_); simp only [List.length_cons, List.length_nil, Nat.reduceAdd, Nat.reduceSub, List.replicate, List.cons_append, List.nil_append])
  (refine sW (And.intro @h5 (And.intro (hget 1 (by decide)) (And.intro (hget 2 (by decide)) (And.intro (hget 3 (by decide)) (And.intro (@yieldA_at 2 42) (And.intro (@yieldA_at 6 46) (And.intro (@yieldA_at 10 50) (And.intro (@yieldA_at 15 55) (@yieldA_at 20 60))))))))) (And.intro (splitS_ac 47 hs) (And.intro (fromS_no (hz 1) h1) (And.intro (fromS_no (hz 2) h2) (fromS_ok (hz 3) h3)))) ?_)
  (exact sR @zeroF.eq_1)
theorem lr2_bad {s : ByteArray} (hs : s.size ≤ 1048576) (h5 : (spA s 47).length = 5) (h1 : hexOk (pcF s 1) = false) (h2 : hexOk (pcF s 2) = true) (h3 : hexOk (pcF s 3) = false) (h : List Blk) : AC Tryz.prog 53 [.string s] h (.tuple #[.agg (Ci 0 zeroF zeroF zeroF 0).toArray, .bool false]) h := by
  have hget : ∀ q, q < 5 → (Ss (spA s 47))[q]? = some (.string (pcF s q)) := fun q hq => pc_get (by omega)
  have hz : ∀ q, (pcF s q).size ≤ 1048576 := fun q => Nat.le_trans pcF_le hs
  (refine AC_begin (fun _ _ => Tryz.call53 _ _) Tryz.func53 rfl Tryz.ntmps53 Tryz.results53 (fun hwf => ?_); simp only [List.length_cons, List.length_nil, Nat.reduceAdd, Nat.reduceSub, List.replicate, List.cons_append, List.nil_append])
  (refine sW (And.intro @h5 (And.intro (hget 1 (by decide)) (And.intro (hget 2 (by decide)) (And.intro (hget 3 (by decide)) (And.intro (@yieldA_at 2 42) (And.intro (@yieldA_at 6 46) (And.intro (@yieldA_at 10 50) (And.intro (@yieldA_at 15 55) (@yieldA_at 20 60))))))))) (And.intro (splitS_ac 47 hs) (And.intro (fromS_no (hz 1) h1) (And.intro (fromS_ok (hz 2) h2) (fromS_no (hz 3) h3)))) ?_)
  (exact sR @zeroF.eq_1)
theorem lr3_bad {s : ByteArray} (hs : s.size ≤ 1048576) (h5 : (spA s 47).length = 5) (h1 : hexOk (pcF s 1) = false) (h2 : hexOk (pcF s 2) = true) (h3 : hexOk (pcF s 3) = true) (h : List Blk) : AC Tryz.prog 53 [.string s] h (.tuple #[.agg (Ci 0 zeroF zeroF zeroF 0).toArray, .bool false]) h := by
  have hget : ∀ q, q < 5 → (Ss (spA s 47))[q]? = some (.string (pcF s q)) := fun q hq => pc_get (by omega)
  have hz : ∀ q, (pcF s q).size ≤ 1048576 := fun q => Nat.le_trans pcF_le hs
  (refine AC_begin (fun _ _ => Tryz.call53 _ _) Tryz.func53 rfl Tryz.ntmps53 Tryz.results53 (fun hwf => ?_); simp only [List.length_cons, List.length_nil, Nat.reduceAdd, Nat.reduceSub, List.replicate, List.cons_append, List.nil_append])
  (refine sW (And.intro @h5 (And.intro (hget 1 (by decide)) (And.intro (hget 2 (by decide)) (And.intro (hget 3 (by decide)) (And.intro (@yieldA_at 2 42) (And.intro (@yieldA_at 6 46) (And.intro (@yieldA_at 10 50) (And.intro (@yieldA_at 15 55) (@yieldA_at 20 60))))))))) (And.intro (splitS_ac 47 hs) (And.intro (fromS_no (hz 1) h1) (And.intro (fromS_ok (hz 2) h2) (fromS_ok (hz 3) h3)))) ?_)
  (exact sR @zeroF.eq_1)
theorem lr4_bad {s : ByteArray} (hs : s.size ≤ 1048576) (h5 : (spA s 47).length = 5) (h1 : hexOk (pcF s 1) = true) (h2 : hexOk (pcF s 2) = false) (h3 : hexOk (pcF s 3) = false) (h : List Blk) : AC Tryz.prog 53 [.string s] h (.tuple #[.agg (Ci 0 zeroF zeroF zeroF 0).toArray, .bool false]) h := by
  have hget : ∀ q, q < 5 → (Ss (spA s 47))[q]? = some (.string (pcF s q)) := fun q hq => pc_get (by omega)
  have hz : ∀ q, (pcF s q).size ≤ 1048576 := fun q => Nat.le_trans pcF_le hs
  (refine AC_begin (fun _ _ => Tryz.call53 _ _) Tryz.func53 rfl Tryz.ntmps53 Tryz.results53 (fun hwf => ?_); simp only [List.length_cons, List.length_nil, Nat.reduceAdd, Nat.reduceSub, List.replicate, List.cons_append, List.nil_append])
  (refine sW (And.intro @h5 (And.intro (hget 1 (by decide)) (And.intro (hget 2 (by decide)) (And.intro (hget 3 (by decide)) (And.intro (@yieldA_at 2 42) (And.intro (@yieldA_at 6 46) (And.intro (@yieldA_at 10 50) (And.intro (@yieldA_at 15 55) (@yieldA_at 20 60))))))))) (And.intro (splitS_ac 47 hs) (And.intro (fromS_ok (hz 1) h1) (And.intro (fromS_no (hz 2) h2) (fromS_no (hz 3) h3)))) ?_)
  (exact sR @zeroF.eq_1)
theorem lr5_bad {s : ByteArray} (hs : s.size ≤ 1048576) (h5 : (spA s 47).length = 5) (h1 : hexOk (pcF s 1) = true) (h2 : hexOk (pcF s 2) = false) (h3 : hexOk (pcF s 3) = true) (h : List Blk) : AC Tryz.prog 53 [.string s] h (.tuple #[.agg (Ci 0 zeroF zeroF zeroF 0).toArray, .bool false]) h := by
  have hget : ∀ q, q < 5 → (Ss (spA s 47))[q]? = some (.string (pcF s q)) := fun q hq => pc_get (by omega)
  have hz : ∀ q, (pcF s q).size ≤ 1048576 := fun q => Nat.le_trans pcF_le hs
  (refine AC_begin (fun _ _ => Tryz.call53 _ _) Tryz.func53 rfl Tryz.ntmps53 Tryz.results53 (fun hwf => ?_); simp only [List.length_cons, List.length_nil, Nat.reduceAdd, Nat.reduceSub, List.replicate, List.cons_append, List.nil_append])
  (refine sW (And.intro @h5 (And.intro (hget 1 (by decide)) (And.intro (hget 2 (by decide)) (And.intro (hget 3 (by decide)) (And.intro (@yieldA_at 2 42) (And.intro (@yieldA_at 6 46) (And.intro (@yieldA_at 10 50) (And.intro (@yieldA_at 15 55) (@yieldA_at 20 60))))))))) (And.intro (splitS_ac 47 hs) (And.intro (fromS_ok (hz 1) h1) (And.intro (fromS_no (hz 2) h2) (fromS_ok (hz 3) h3)))) ?_)
  (exact sR @zeroF.eq_1)
theorem lr6_bad {s : ByteArray} (hs : s.size ≤ 1048576) (h5 : (spA s 47).length = 5) (h1 : hexOk (pcF s 1) = true) (h2 : hexOk (pcF s 2) = true) (h3 : hexOk (pcF s 3) = false) (h : List Blk) : AC Tryz.prog 53 [.string s] h (.tuple #[.agg (Ci 0 zeroF zeroF zeroF 0).toArray, .bool false]) h := by
  have hget : ∀ q, q < 5 → (Ss (spA s 47))[q]? = some (.string (pcF s q)) := fun q hq => pc_get (by omega)
  have hz : ∀ q, (pcF s q).size ≤ 1048576 := fun q => Nat.le_trans pcF_le hs
  (refine AC_begin (fun _ _ => Tryz.call53 _ _) Tryz.func53 rfl Tryz.ntmps53 Tryz.results53 (fun hwf => ?_); simp only [List.length_cons, List.length_nil, Nat.reduceAdd, Nat.reduceSub, List.replicate, List.cons_append, List.nil_append])
  (refine sW (And.intro @h5 (And.intro (hget 1 (by decide)) (And.intro (hget 2 (by decide)) (And.intro (hget 3 (by decide)) (And.intro (@yieldA_at 2 42) (And.intro (@yieldA_at 6 46) (And.intro (@yieldA_at 10 50) (And.intro (@yieldA_at 15 55) (@yieldA_at 20 60))))))))) (And.intro (splitS_ac 47 hs) (And.intro (fromS_ok (hz 1) h1) (And.intro (fromS_ok (hz 2) h2) (fromS_no (hz 3) h3)))) ?_)
  (exact sR @zeroF.eq_1)

theorem lr_sz {s : ByteArray} (hs : s.size ≤ 1048576) (h5 : (spA s 47).length = 5) (h1 : hexOk (pcF s 1) = true) (h2 : hexOk (pcF s 2) = true) (h3 : hexOk (pcF s 3) = true) (hb : ((pcF s 1).size / 2 == 256 && ((pcF s 2).size / 2 == 16 && (pcF s 3).size / 2 == 16)) = false) (h : List Blk) : AC Tryz.prog 53 [.string s] h (.tuple #[.agg (Ci 0 zeroF zeroF zeroF 0).toArray, .bool false]) h := by
  have hget : ∀ q, q < 5 → (Ss (spA s 47))[q]? = some (.string (pcF s q)) := fun q hq => pc_get (by omega)
  have hz : ∀ q, (pcF s q).size ≤ 1048576 := fun q => Nat.le_trans pcF_le hs
  cases e1 : ((pcF s 1).size / 2 != 256)
  · have f1 : ((pcF s 1).size / 2 == 256) = true := by rw [bne, Bool.not_eq_false'] at e1; exact e1
    rw [f1, Bool.true_and] at hb
    cases e2 : ((pcF s 2).size / 2 != 16)
    · have f2 : ((pcF s 2).size / 2 == 16) = true := by rw [bne, Bool.not_eq_false'] at e2; exact e2
      rw [f2, Bool.true_and] at hb
      have e3 : ((pcF s 3).size / 2 != 16) = true := by rw [bne, hb]; rfl
      (refine AC_begin (fun _ _ => Tryz.call53 _ _) Tryz.func53 rfl Tryz.ntmps53 Tryz.results53 (fun hwf => ?_); simp only [List.length_cons, List.length_nil, Nat.reduceAdd, Nat.reduceSub, List.replicate, List.cons_append, List.nil_append])
      (refine sW (And.intro @e1 (And.intro @e2 (And.intro @e3 (And.intro @h5 (And.intro (hget 1 (by decide)) (And.intro (hget 2 (by decide)) (And.intro (hget 3 (by decide)) (And.intro (@yieldA_at 2 42) (And.intro (@yieldA_at 6 46) (And.intro (@yieldA_at 10 50) (And.intro (@yieldA_at 15 55) (@yieldA_at 20 60)))))))))))) (And.intro (splitS_ac 47 hs) (And.intro (fromS_ok (hz 1) h1) (And.intro (fromS_ok (hz 2) h2) (fromS_ok (hz 3) h3)))) ?_)
      (exact sR @zeroF.eq_1)
    · (refine AC_begin (fun _ _ => Tryz.call53 _ _) Tryz.func53 rfl Tryz.ntmps53 Tryz.results53 (fun hwf => ?_); simp only [List.length_cons, List.length_nil, Nat.reduceAdd, Nat.reduceSub, List.replicate, List.cons_append, List.nil_append])
      (refine sW (And.intro @e1 (And.intro @e2 (And.intro @h5 (And.intro (hget 1 (by decide)) (And.intro (hget 2 (by decide)) (And.intro (hget 3 (by decide)) (And.intro (@yieldA_at 2 42) (And.intro (@yieldA_at 6 46) (And.intro (@yieldA_at 10 50) (And.intro (@yieldA_at 15 55) (@yieldA_at 20 60))))))))))) (And.intro (splitS_ac 47 hs) (And.intro (fromS_ok (hz 1) h1) (And.intro (fromS_ok (hz 2) h2) (fromS_ok (hz 3) h3)))) ?_)
      (exact sR @zeroF.eq_1)
  · (refine AC_begin (fun _ _ => Tryz.call53 _ _) Tryz.func53 rfl Tryz.ntmps53 Tryz.results53 (fun hwf => ?_); simp only [List.length_cons, List.length_nil, Nat.reduceAdd, Nat.reduceSub, List.replicate, List.cons_append, List.nil_append])
    (refine sW (And.intro @e1 (And.intro @h5 (And.intro (hget 1 (by decide)) (And.intro (hget 2 (by decide)) (And.intro (hget 3 (by decide)) (And.intro (@yieldA_at 2 42) (And.intro (@yieldA_at 6 46) (And.intro (@yieldA_at 10 50) (And.intro (@yieldA_at 15 55) (@yieldA_at 20 60)))))))))) (And.intro (splitS_ac 47 hs) (And.intro (fromS_ok (hz 1) h1) (And.intro (fromS_ok (hz 2) h2) (fromS_ok (hz 3) h3)))) ?_)
    (exact sR @zeroF.eq_1)

end Go.Proofs.YtkdpjkpedklbpaaGreatDoor
/- Ciphers of texts: the reference's good case, both sides. -/
namespace Go.Proofs.YtkdpjkpedklbpaaGreatDoor
set_option linter.unusedSimpArgs false
set_option linter.unusedVariables false
set_option maxRecDepth 20000
set_option maxHeartbeats 1000000
open Go.Abs

theorem mid_spliceIn {A s R x : List Value} {o n j : Nat} (hA : A.length = o) (hs : s.length = n) (hj : j + x.length ≤ n) : splice (A ++ (s ++ R)) (o + j) x = A ++ (splice s j x ++ R) := by
  unfold splice
  rw [List.take_append, List.take_of_length_le (by omega), show o + j - A.length = j by omega, List.take_append_of_le_length (by omega), List.drop_append, List.drop_eq_nil_of_le (by omega), List.nil_append, show o + j + x.length - A.length = j + x.length by omega, List.drop_append_of_le_length (by omega)]
  simp only [List.append_assoc]
theorem Ci_storein2 (m r : Int) (bx mx pl : Nat → UInt8) {j n : Nat} (hj : j + n ≤ 16) (f : Nat → UInt8) {h : List Blk} {b : Nat} : storeRow h b (some ⟨Ci m bx mx pl r, true⟩) (257 + j) n (Bs n f) = some (J, h.set b ⟨Ci m bx (over mx j n f) pl r, true⟩) := by
  rw [storeRow_gen (Bs_length ..) (by rw [Ci_length]; omega), Ci_cut2, mid_spliceIn (n := 16) (by simp [Bs_length]) (Bs_length ..) (by rw [Bs_length]; exact hj), splice_Bs hj, ← Ci_cut2]
theorem Ci_splicein2 (m r : Int) (bx mx pl : Nat → UInt8) {j n : Nat} (hj : j + n ≤ 16) (f : Nat → UInt8) : splice (Ci m bx mx pl r) (257 + j) (Bs n f) = Ci m bx (over mx j n f) pl r := by
  rw [Ci_cut2, mid_spliceIn (n := 16) (by simp [Bs_length]) (Bs_length ..) (by rw [Bs_length]; exact hj), splice_Bs hj, ← Ci_cut2]
theorem over_pre4 (u : Nat → UInt8) (q : Nat) : over (pre (q * 4) u zeroF) (q * 4) 4 (fun t => u (q * 4 + t)) = pre ((q + 1) * 4) u zeroF := by
  funext i
  unfold over pre
  by_cases h1 : q * 4 ≤ i ∧ i < q * 4 + 4
  · rw [if_pos h1, if_pos (by omega)]
    show u (q * 4 + (i - q * 4)) = _
    rw [show q * 4 + (i - q * 4) = i by omega]
  · rw [if_neg h1]
    by_cases h2 : i < q * 4
    · rw [if_pos h2, if_pos (by omega)]
    · rw [if_neg h2, if_neg (by omega)]
theorem over_pre4' (u : Nat → UInt8) (q : Nat) : over (pre (q * 4) u zeroF) (q * 4) 4 (fun t => u (4 * q + t)) = pre ((q + 1) * 4) u zeroF := by
  rw [Nat.mul_comm 4 q]; exact over_pre4 u q
attribute [local irreducible] ch unV pcF spA hexOk numN cipB
set_option maxHeartbeats 8000000 in
theorem lr_ok {s : ByteArray} (hs : s.size ≤ 1048576) (hp : pcOk s = true) (h : List Blk) : AC Tryz.prog 53 [.string s] h (.tuple #[.agg (Ci (numN (pcF s 0)) (unV (pcF s 1)) (mxV s) (unV (pcF s 3)) (numN (pcF s 4))).toArray, .bool (cipB (numN (pcF s 0)) (unV (pcF s 1)) (mxV s) (unV (pcF s 3)) (numN (pcF s 4)))]) h := by
  unfold pcOk at hp
  simp only [Bool.and_eq_true, decide_eq_true_eq, beq_iff_eq] at hp
  obtain ⟨h5, ⟨h1, h2, h3⟩, e1, e2, e3⟩ := hp
  have hget : ∀ q, q < 5 → (Ss (spA s 47))[q]? = some (.string (pcF s q)) := fun q hq => pc_get (by omega)
  have hz : ∀ q, (pcF s q).size ≤ 1048576 := fun q => Nat.le_trans pcF_le hs
  have g1 := fromS_ok (hz 1) h1
  have g2 := fromS_ok (hz 2) h2
  have g3 := fromS_ok (hz 3) h3
  rw [e1] at g1
  rw [e2] at g2
  rw [e3] at g3
  (refine AC_begin (fun _ _ => Tryz.call53 _ _) Tryz.func53 rfl Tryz.ntmps53 Tryz.results53 (fun hwf => ?_); simp only [List.length_cons, List.length_nil, Nat.reduceAdd, Nat.reduceSub, List.replicate, List.cons_append, List.nil_append])
  (repeat (first | ((first | (refine And.intro ?_ ?_; focus exact PLA) | ((first | with_reducible apply callB_i | with_reducible apply callK_intro | with_reducible apply callQ_i); (focus (first | assumption | ((first | with_reducible apply splitS_ac 47 hs | with_reducible apply g1 | with_reducible apply g2 | with_reducible apply g3 | with_reducible apply lnum_ac (hz 0) | with_reducible apply lnum_ac (hz 4)) <;> (first | assumption | rfl | (simp (disch := omega) only [go_sem]; first | done | rfl) | omega | decide | (simp; done))))); (try exact WP_au)) | refine WA_seq (WA_region ?_) | refine WA_region ?_ | refine WA_exit ?_); try simp (maxSteps := 1000000) (disch := first | omega | rfl | decide | (simp only [List.length_cons, List.length_nil, List.length_append, LV] <;> omega)) only [go_sem, Nat.reduceAdd, Int.reduceAdd, Int.reduceSub, Int.reduceMul, Bool.not_true, Bool.not_false, Ci_splice0, Ci_splice1, Ci_splice3, Ci_splice4, Ci_splice_all, h5, bne_self_eq_false, hget 0 (by decide), hget 1 (by decide), hget 2 (by decide), hget 3 (by decide), hget 4 (by decide), Bool.not_true, Bool.not_false, yieldA_at 2 42, yieldA_at 6 46, yieldA_at 10 50, yieldA_at 15 55, yieldA_at 20 60]) | (refine (WA_rb (id := 9) [16] (SubM.refl _) mixedOk ?_); simp only [List.size_toArray, List.length_cons, List.length_nil]; (repeat (first | ((first | (refine And.intro ?_ ?_; focus exact PLA) | ((first | with_reducible apply callB_i | with_reducible apply callK_intro | with_reducible apply callQ_i); (focus (first | assumption | ((first | with_reducible apply splitS_ac 47 hs | with_reducible apply g1 | with_reducible apply g2 | with_reducible apply g3 | with_reducible apply lnum_ac (hz 0) | with_reducible apply lnum_ac (hz 4)) <;> (first | assumption | rfl | (simp (disch := omega) only [go_sem]; first | done | rfl) | omega | decide | (simp; done))))); (try exact WP_au)) | refine RB_take false [0, 1, 4, 5, 7, 8, 10, 11] 9 (by rfl) (by kernel_rfl) (by decide) (by decide +kernel) ?_ | refine RB_take true [2, 3, 6, 9, 12, 13] 3 (by rfl) (by kernel_rfl) (by decide) (by decide +kernel) ?_ | refine RB_take false [14] 2 (by rfl) (by kernel_rfl) (by decide) (by decide +kernel) ?_ | refine RB_keep 15 _ (by rfl) (by decide +kernel) (by first | (simp (disch := first | omega | decide) only [go_sem, List.getElem?_nil]; done) | fail) ?_ | refine RB_exec 16 _ (by rfl) (by decide +kernel) (by decide +kernel) ?_ | refine RB_done (by decide +kernel) ?_); try simp (maxSteps := 1000000) (disch := first | omega | rfl | decide | (simp only [List.length_cons, List.length_nil, List.length_append, LV] <;> omega)) only [go_sem, Nat.reduceAdd, Int.reduceAdd, Int.reduceSub, Int.reduceMul, Bool.not_true, Bool.not_false, Ci_splice0, Ci_splice1, Ci_splice3, Ci_splice4, Ci_splice_all, h5, bne_self_eq_false, hget 0 (by decide), hget 1 (by decide), hget 2 (by decide), hget 3 (by decide), hget 4 (by decide), Bool.not_true, Bool.not_false, yieldA_at 2 42, yieldA_at 6 46, yieldA_at 10 50, yieldA_at 15 55, yieldA_at 20 60])))) | refine WA_seq ?_ | refine WA_block ?_ | (refine WA_skip ?_; try simp only [go_sem]) | (refine WA_ret ?_; try simp only [go_sem]) | refine WA_ct rfl ?_ | refine WA_cf rfl ?_))
  refine WA_forP (fun k => [(12, .int .i64 k), (81, J), (82, J), (83, J), (84, J), (85, J), (86, J), (87, J), (88, J), (89, J), (90, J), (91, J), (92, J), (93, J), (94, J), (95, J), (96, J)]) (fun k => [(5, ⟨Ci (numN (pcF s 0)) (unV (pcF s 1)) (pre (k * 4) (unV (pcF s 2)) zeroF) (unV (pcF s 3)) (numN (pcF s 4)), true⟩)]) (4) ?_ ?_ ?_ <;> (try simp only [patT_cons, patT_nil, patL_cons, patL_nil, list_set_zero, list_set_succ, blk_set_zero, blk_set_succ])
  · rw [Nat.zero_mul, pre_zero]
    (exact sS @zeroF.eq_1)
  · intro q hq
    (refine sN (And.intro @Ci_splicein2 (And.intro @Ci_storein2 (And.intro @over_pre4' (And.intro (@yieldA_at 2 42) (And.intro (@yieldA_at 6 46) (And.intro (@yieldA_at 10 50) (And.intro (@yieldA_at 15 55) (@yieldA_at 20 60)))))))) ?_)
    (exact sS0)
  · (repeat (first | ((first | (refine And.intro ?_ ?_; focus exact PLA) | ((first | with_reducible apply callB_i | with_reducible apply callK_intro | with_reducible apply callQ_i); (focus (first | assumption | (with_reducible apply cipS_ac <;> (first | assumption | rfl | (simp (disch := omega) only [go_sem]; first | done | rfl) | omega | decide | (simp; done))))); (try exact WP_au)) | refine WA_seq (WA_region ?_) | refine WA_region ?_ | refine WA_exit ?_); try simp (maxSteps := 1000000) (disch := first | omega | rfl | decide | (simp only [List.length_cons, List.length_nil, List.length_append, LV] <;> omega)) only [go_sem, Nat.reduceAdd, Int.reduceAdd, Int.reduceSub, Int.reduceMul, Bool.not_true, Bool.not_false, Ci_splice_all, yieldA_at 2 42, yieldA_at 6 46, yieldA_at 10 50, yieldA_at 15 55, yieldA_at 20 60]) | (refine (WA_rb (id := 14) [3] (SubM.refl _) mixedOk ?_); simp only [List.size_toArray, List.length_cons, List.length_nil]; (repeat (first | ((first | (refine And.intro ?_ ?_; focus exact PLA) | ((first | with_reducible apply callB_i | with_reducible apply callK_intro | with_reducible apply callQ_i); (focus (first | assumption | (with_reducible apply cipS_ac <;> (first | assumption | rfl | (simp (disch := omega) only [go_sem]; first | done | rfl) | omega | decide | (simp; done))))); (try exact WP_au)) | refine RB_take true [0, 1, 2] 2 (by rfl) (by kernel_rfl) (by decide) (by decide +kernel) ?_ | refine RB_exec 3 _ (by rfl) (by decide +kernel) (by decide +kernel) ?_ | refine RB_take false [4] 0 (by rfl) (by kernel_rfl) (by decide) (by decide +kernel) ?_ | refine RB_done (by decide +kernel) ?_); try simp (maxSteps := 1000000) (disch := first | omega | rfl | decide | (simp only [List.length_cons, List.length_nil, List.length_append, LV] <;> omega)) only [go_sem, Nat.reduceAdd, Int.reduceAdd, Int.reduceSub, Int.reduceMul, Bool.not_true, Bool.not_false, Ci_splice_all, yieldA_at 2 42, yieldA_at 6 46, yieldA_at 10 50, yieldA_at 15 55, yieldA_at 20 60])))) | refine WA_seq ?_ | refine WA_block ?_ | (refine WA_skip ?_; try simp only [go_sem]) | (refine WA_ret ?_; try simp only [go_sem]) | refine WA_ct rfl ?_ | refine WA_cf rfl ?_))
    (exact sR @mxV.eq_1)

theorem lr_bad {s : ByteArray} (hs : s.size ≤ 1048576) (hp : pcOk s = false) (h : List Blk) : AC Tryz.prog 53 [.string s] h (.tuple #[.agg (Ci 0 zeroF zeroF zeroF 0).toArray, .bool false]) h := by
  by_cases h5 : (spA s 47).length = 5
  · cases h1 : hexOk (pcF s 1) <;> cases h2 : hexOk (pcF s 2) <;> cases h3 : hexOk (pcF s 3)
    · exact lr0_bad hs h5 h1 h2 h3 h
    · exact lr1_bad hs h5 h1 h2 h3 h
    · exact lr2_bad hs h5 h1 h2 h3 h
    · exact lr3_bad hs h5 h1 h2 h3 h
    · exact lr4_bad hs h5 h1 h2 h3 h
    · exact lr5_bad hs h5 h1 h2 h3 h
    · exact lr6_bad hs h5 h1 h2 h3 h
    · refine lr_sz hs h5 h1 h2 h3 ?_ h
      unfold pcOk at hp
      rw [h1, h2, h3, decide_eq_true h5] at hp
      exact hp
  · exact lr_len hs h5 h

theorem pcS_ac {s : ByteArray} (hs : s.size ≤ 1048576) (h : List Blk) : AC Tryz.prog 21 [.string s] h (.tuple #[.agg (Ci (rdM s) (rdX s) (rdY s) (rdP s) (rdR s)).toArray, .int .i64 (rdC s)]) h := by
  unfold rdM rdX rdY rdP rdR rdC rdOk
  cases hp : pcOk s
  · (refine AC_begin (fun _ _ => Tryz.call21 _ _) Tryz.func21 rfl Tryz.ntmps21 Tryz.results21 (fun hwf => ?_); simp only [List.length_cons, List.length_nil, Nat.reduceAdd, Nat.reduceSub, List.replicate, List.cons_append, List.nil_append])
    (refine sW0 (lr_bad hs hp) ?_)
    (exact sR (And.intro @zeroF.eq_1 @Bool.false_and))
  · cases hc : cipB (numN (pcF s 0)) (unV (pcF s 1)) (mxV s) (unV (pcF s 3)) (numN (pcF s 4))
    · have c := lr_ok hs hp
      rw [hc] at c
      (refine AC_begin (fun _ _ => Tryz.call21 _ _) Tryz.func21 rfl Tryz.ntmps21 Tryz.results21 (fun hwf => ?_); simp only [List.length_cons, List.length_nil, Nat.reduceAdd, Nat.reduceSub, List.replicate, List.cons_append, List.nil_append])
      (refine sW @Ci_splice_all @c ?_)
      (exact sR (And.intro @zeroF.eq_1 @Bool.and_false))
    · have c := lr_ok hs hp
      rw [hc] at c
      (refine AC_begin (fun _ _ => Tryz.call21 _ _) Tryz.func21 rfl Tryz.ntmps21 Tryz.results21 (fun hwf => ?_); simp only [List.length_cons, List.length_nil, Nat.reduceAdd, Nat.reduceSub, List.replicate, List.cons_append, List.nil_append])
      (refine sW @Ci_splice_all @c ?_)
      (exact sR @Bool.and_true)

end Go.Proofs.YtkdpjkpedklbpaaGreatDoor
/- Ciphers of texts: the program's reading. -/
namespace Go.Proofs.YtkdpjkpedklbpaaGreatDoor
set_option linter.unusedSimpArgs false
set_option linter.unusedVariables false
set_option maxRecDepth 20000
set_option maxHeartbeats 1000000
open Go.Abs

theorem numN_t {s : ByteArray} (h : numB s = true) : numN s = numV s := if_pos h
theorem par_t {s : ByteArray} (h : parC s = 0) : hexOk s = true ∧ s.size / 2 = 256 ∧ parF s = unV s := by
  unfold parC at h
  cases hp : parOk s
  · rw [hp] at h; cases h
  · unfold parF
    rw [if_pos hp]
    unfold parOk at hp
    rw [Bool.and_eq_true, beq_iff_eq] at hp
    exact ⟨hp.1, by omega, rfl⟩
theorem par_f {s : ByteArray} (h : (parC s != 0) = true) (he : hexOk s = true) : (s.size / 2 == 256) = false := by
  rw [beq_eq_false_iff_ne]
  intro e
  unfold parC parOk at h
  unfold hexOk at he
  have h2 : s.size = 512 := by
    rw [Bool.and_eq_true, beq_iff_eq] at he; omega
  unfold hexOk at h
  rw [he, h2] at h
  cases h
theorem par_ff {s : ByteArray} (h : (parC s != 0) = true) : (hexOk s && (s.size / 2 == 256)) = false := by
  cases he : hexOk s
  · rfl
  · rw [par_f h he]; rfl
attribute [local irreducible] ch unV pcF spA hexOk numN numB numV cipB parF parC
theorem pi_len {s : ByteArray} (hs : s.size ≤ 1048576) (h5 : (spA s 47).length ≠ 5) (h : List Blk) : AC Tryz.prog 20 [.string s] h (.tuple #[.agg (Ci 0 zeroF zeroF zeroF 0).toArray, .int .i64 6]) h := by
  have hl := spA_le s 47
  have hne : (((spA s 47).length : Nat) != 5) = true := by rw [bne_iff_ne]; exact h5
  (refine AC_begin (fun _ _ => Tryz.call20 _ _) Tryz.func20 rfl Tryz.ntmps20 Tryz.results20 (fun hwf => ?_); simp only [List.length_cons, List.length_nil, Nat.reduceAdd, Nat.reduceSub, List.replicate, List.cons_append, List.nil_append])
  (refine sW (And.intro @hne (And.intro (@yieldA_at 2 61) (And.intro (@yieldA_at 6 65) (And.intro (@yieldA_at 10 69) (And.intro (@yieldA_at 14 73) (And.intro (@yieldA_at 18 77) (@yieldA_at 23 82))))))) (splitI_ac hs) ?_)
  (exact sR @zeroF.eq_1)
set_option maxHeartbeats 8000000 in
theorem pi0_bad {s : ByteArray} (hs : s.size ≤ 1048576) (h5 : (spA s 47).length = 5) (h2 : hexOk (pcF s 2) = false) (h3 : hexOk (pcF s 3) = false) (h : List Blk) : AC Tryz.prog 20 [.string s] h (.tuple #[.agg (Ci 0 zeroF zeroF zeroF 0).toArray, .int .i64 6]) h := by
  have hget : ∀ q, q < 5 → (Ss (spA s 47))[q]? = some (.string (pcF s q)) := fun q hq => pc_get (by omega)
  have hz : ∀ q, (pcF s q).size ≤ 1048576 := fun q => Nat.le_trans pcF_le hs
  cases hA : numB (pcF s 0)
  all_goals
    (refine AC_begin (fun _ _ => Tryz.call20 _ _) Tryz.func20 rfl Tryz.ntmps20 Tryz.results20 (fun hwf => ?_); simp only [List.length_cons, List.length_nil, Nat.reduceAdd, Nat.reduceSub, List.replicate, List.cons_append, List.nil_append])
    (refine sW (And.intro @hA (And.intro @h5 (And.intro (hget 0 (by decide)) (And.intro (hget 1 (by decide)) (And.intro (hget 2 (by decide)) (And.intro (hget 3 (by decide)) (And.intro (hget 4 (by decide)) (And.intro (@yieldA_at 2 61) (And.intro (@yieldA_at 6 65) (And.intro (@yieldA_at 10 69) (And.intro (@yieldA_at 14 73) (And.intro (@yieldA_at 18 77) (@yieldA_at 23 82))))))))))))) (And.intro (splitI_ac hs) (And.intro (rd_ac (hz 0)) (And.intro (rd_ac (hz 4)) (And.intro (parI_ac (hz 1)) (And.intro (fromI_no (hz 2) h2) (fromI_no (hz 3) h3)))))) ?_)
    (exact sR @zeroF.eq_1)
set_option maxHeartbeats 8000000 in
theorem pi1_bad {s : ByteArray} (hs : s.size ≤ 1048576) (h5 : (spA s 47).length = 5) (h2 : hexOk (pcF s 2) = false) (h3 : hexOk (pcF s 3) = true) (h : List Blk) : AC Tryz.prog 20 [.string s] h (.tuple #[.agg (Ci 0 zeroF zeroF zeroF 0).toArray, .int .i64 6]) h := by
  have hget : ∀ q, q < 5 → (Ss (spA s 47))[q]? = some (.string (pcF s q)) := fun q hq => pc_get (by omega)
  have hz : ∀ q, (pcF s q).size ≤ 1048576 := fun q => Nat.le_trans pcF_le hs
  cases hA : numB (pcF s 0)
  all_goals
    (refine AC_begin (fun _ _ => Tryz.call20 _ _) Tryz.func20 rfl Tryz.ntmps20 Tryz.results20 (fun hwf => ?_); simp only [List.length_cons, List.length_nil, Nat.reduceAdd, Nat.reduceSub, List.replicate, List.cons_append, List.nil_append])
    (refine sW (And.intro @hA (And.intro @h5 (And.intro (hget 0 (by decide)) (And.intro (hget 1 (by decide)) (And.intro (hget 2 (by decide)) (And.intro (hget 3 (by decide)) (And.intro (hget 4 (by decide)) (And.intro (@yieldA_at 2 61) (And.intro (@yieldA_at 6 65) (And.intro (@yieldA_at 10 69) (And.intro (@yieldA_at 14 73) (And.intro (@yieldA_at 18 77) (@yieldA_at 23 82))))))))))))) (And.intro (splitI_ac hs) (And.intro (rd_ac (hz 0)) (And.intro (rd_ac (hz 4)) (And.intro (parI_ac (hz 1)) (And.intro (fromI_no (hz 2) h2) (fromI_ok (hz 3) h3)))))) ?_)
    (exact sR @zeroF.eq_1)
set_option maxHeartbeats 8000000 in
theorem pi2_bad {s : ByteArray} (hs : s.size ≤ 1048576) (h5 : (spA s 47).length = 5) (h2 : hexOk (pcF s 2) = true) (h3 : hexOk (pcF s 3) = false) (h : List Blk) : AC Tryz.prog 20 [.string s] h (.tuple #[.agg (Ci 0 zeroF zeroF zeroF 0).toArray, .int .i64 6]) h := by
  have hget : ∀ q, q < 5 → (Ss (spA s 47))[q]? = some (.string (pcF s q)) := fun q hq => pc_get (by omega)
  have hz : ∀ q, (pcF s q).size ≤ 1048576 := fun q => Nat.le_trans pcF_le hs
  cases hA : numB (pcF s 0)
  all_goals
    (refine AC_begin (fun _ _ => Tryz.call20 _ _) Tryz.func20 rfl Tryz.ntmps20 Tryz.results20 (fun hwf => ?_); simp only [List.length_cons, List.length_nil, Nat.reduceAdd, Nat.reduceSub, List.replicate, List.cons_append, List.nil_append])
    (refine sW (And.intro @hA (And.intro @h5 (And.intro (hget 0 (by decide)) (And.intro (hget 1 (by decide)) (And.intro (hget 2 (by decide)) (And.intro (hget 3 (by decide)) (And.intro (hget 4 (by decide)) (And.intro (@yieldA_at 2 61) (And.intro (@yieldA_at 6 65) (And.intro (@yieldA_at 10 69) (And.intro (@yieldA_at 14 73) (And.intro (@yieldA_at 18 77) (@yieldA_at 23 82))))))))))))) (And.intro (splitI_ac hs) (And.intro (rd_ac (hz 0)) (And.intro (rd_ac (hz 4)) (And.intro (parI_ac (hz 1)) (And.intro (fromI_ok (hz 2) h2) (fromI_no (hz 3) h3)))))) ?_)
    (exact sR @zeroF.eq_1)

end Go.Proofs.YtkdpjkpedklbpaaGreatDoor
/- Ciphers of texts: the program's reading of what has five pieces of signs. -/
namespace Go.Proofs.YtkdpjkpedklbpaaGreatDoor
set_option linter.unusedSimpArgs false
set_option linter.unusedVariables false
set_option maxRecDepth 20000
set_option maxHeartbeats 1000000
open Go.Abs

attribute [local irreducible] ch unV pcF spA hexOk numN numB numV cipB parF parC
theorem pi3_bad {s : ByteArray} (hs : s.size ≤ 1048576) (h5 : (spA s 47).length = 5) (h2 : hexOk (pcF s 2) = true) (h3 : hexOk (pcF s 3) = true) (hA : numB (pcF s 0) = false) (hD : numB (pcF s 4) = false) (h : List Blk) : AC Tryz.prog 20 [.string s] h (.tuple #[.agg (Ci 0 zeroF zeroF zeroF 0).toArray, .int .i64 6]) h := by
  have hget : ∀ q, q < 5 → (Ss (spA s 47))[q]? = some (.string (pcF s q)) := fun q hq => pc_get (by omega)
  have hz : ∀ q, (pcF s q).size ≤ 1048576 := fun q => Nat.le_trans pcF_le hs
  (refine AC_begin (fun _ _ => Tryz.call20 _ _) Tryz.func20 rfl Tryz.ntmps20 Tryz.results20 (fun hwf => ?_); simp only [List.length_cons, List.length_nil, Nat.reduceAdd, Nat.reduceSub, List.replicate, List.cons_append, List.nil_append])
  (refine sW (And.intro @hA (And.intro @hD (And.intro @h5 (And.intro (hget 0 (by decide)) (And.intro (hget 1 (by decide)) (And.intro (hget 2 (by decide)) (And.intro (hget 3 (by decide)) (And.intro (hget 4 (by decide)) (And.intro (@yieldA_at 2 61) (And.intro (@yieldA_at 6 65) (And.intro (@yieldA_at 10 69) (And.intro (@yieldA_at 14 73) (And.intro (@yieldA_at 18 77) (@yieldA_at 23 82)))))))))))))) (And.intro (splitI_ac hs) (And.intro (rd_ac (hz 0)) (And.intro (rd_ac (hz 4)) (And.intro (parI_ac (hz 1)) (And.intro (fromI_ok (hz 2) h2) (fromI_ok (hz 3) h3)))))) ?_)
  (exact sR @zeroF.eq_1)
theorem pi4_bad {s : ByteArray} (hs : s.size ≤ 1048576) (h5 : (spA s 47).length = 5) (h2 : hexOk (pcF s 2) = true) (h3 : hexOk (pcF s 3) = true) (hA : numB (pcF s 0) = false) (hD : numB (pcF s 4) = true) (h : List Blk) : AC Tryz.prog 20 [.string s] h (.tuple #[.agg (Ci 0 zeroF zeroF zeroF 0).toArray, .int .i64 6]) h := by
  have hget : ∀ q, q < 5 → (Ss (spA s 47))[q]? = some (.string (pcF s q)) := fun q hq => pc_get (by omega)
  have hz : ∀ q, (pcF s q).size ≤ 1048576 := fun q => Nat.le_trans pcF_le hs
  (refine AC_begin (fun _ _ => Tryz.call20 _ _) Tryz.func20 rfl Tryz.ntmps20 Tryz.results20 (fun hwf => ?_); simp only [List.length_cons, List.length_nil, Nat.reduceAdd, Nat.reduceSub, List.replicate, List.cons_append, List.nil_append])
  (refine sW (And.intro @hA (And.intro @hD (And.intro @h5 (And.intro (hget 0 (by decide)) (And.intro (hget 1 (by decide)) (And.intro (hget 2 (by decide)) (And.intro (hget 3 (by decide)) (And.intro (hget 4 (by decide)) (And.intro (@yieldA_at 2 61) (And.intro (@yieldA_at 6 65) (And.intro (@yieldA_at 10 69) (And.intro (@yieldA_at 14 73) (And.intro (@yieldA_at 18 77) (@yieldA_at 23 82)))))))))))))) (And.intro (splitI_ac hs) (And.intro (rd_ac (hz 0)) (And.intro (rd_ac (hz 4)) (And.intro (parI_ac (hz 1)) (And.intro (fromI_ok (hz 2) h2) (fromI_ok (hz 3) h3)))))) ?_)
  (exact sR @zeroF.eq_1)
theorem pi5_bad {s : ByteArray} (hs : s.size ≤ 1048576) (h5 : (spA s 47).length = 5) (h2 : hexOk (pcF s 2) = true) (h3 : hexOk (pcF s 3) = true) (hA : numB (pcF s 0) = true) (hD : numB (pcF s 4) = false) (h : List Blk) : AC Tryz.prog 20 [.string s] h (.tuple #[.agg (Ci 0 zeroF zeroF zeroF 0).toArray, .int .i64 6]) h := by
  have hget : ∀ q, q < 5 → (Ss (spA s 47))[q]? = some (.string (pcF s q)) := fun q hq => pc_get (by omega)
  have hz : ∀ q, (pcF s q).size ≤ 1048576 := fun q => Nat.le_trans pcF_le hs
  (refine AC_begin (fun _ _ => Tryz.call20 _ _) Tryz.func20 rfl Tryz.ntmps20 Tryz.results20 (fun hwf => ?_); simp only [List.length_cons, List.length_nil, Nat.reduceAdd, Nat.reduceSub, List.replicate, List.cons_append, List.nil_append])
  (refine sW (And.intro @hA (And.intro @hD (And.intro @h5 (And.intro (hget 0 (by decide)) (And.intro (hget 1 (by decide)) (And.intro (hget 2 (by decide)) (And.intro (hget 3 (by decide)) (And.intro (hget 4 (by decide)) (And.intro (@yieldA_at 2 61) (And.intro (@yieldA_at 6 65) (And.intro (@yieldA_at 10 69) (And.intro (@yieldA_at 14 73) (And.intro (@yieldA_at 18 77) (@yieldA_at 23 82)))))))))))))) (And.intro (splitI_ac hs) (And.intro (rd_ac (hz 0)) (And.intro (rd_ac (hz 4)) (And.intro (parI_ac (hz 1)) (And.intro (fromI_ok (hz 2) h2) (fromI_ok (hz 3) h3)))))) ?_)
  (exact sR @zeroF.eq_1)
theorem pi6_bad {s : ByteArray} (hs : s.size ≤ 1048576) (h5 : (spA s 47).length = 5) (h2 : hexOk (pcF s 2) = true) (h3 : hexOk (pcF s 3) = true) (hA : numB (pcF s 0) = true) (hD : numB (pcF s 4) = true) (e1 : (parC (pcF s 1) != 0) = true) (e2 : true = false → ((pcF s 2).size / 2 != 16) = false) (e3 : true = false → false = false → ((pcF s 3).size / 2 != 16) = false) (h : List Blk) : AC Tryz.prog 20 [.string s] h (.tuple #[.agg (Ci 0 zeroF zeroF zeroF 0).toArray, .int .i64 6]) h := by
  have hget : ∀ q, q < 5 → (Ss (spA s 47))[q]? = some (.string (pcF s q)) := fun q hq => pc_get (by omega)
  have hz : ∀ q, (pcF s q).size ≤ 1048576 := fun q => Nat.le_trans pcF_le hs
  try simp only [forall_const, Bool.true_eq_false, false_implies] at e2 e3
  (refine AC_begin (fun _ _ => Tryz.call20 _ _) Tryz.func20 rfl Tryz.ntmps20 Tryz.results20 (fun hwf => ?_); simp only [List.length_cons, List.length_nil, Nat.reduceAdd, Nat.reduceSub, List.replicate, List.cons_append, List.nil_append])
  (refine sW (And.intro @hA (And.intro @hD (And.intro @e1 (And.intro @e2 (And.intro @e3 (And.intro @h5 (And.intro (hget 0 (by decide)) (And.intro (hget 1 (by decide)) (And.intro (hget 2 (by decide)) (And.intro (hget 3 (by decide)) (And.intro (hget 4 (by decide)) (And.intro (@yieldA_at 2 61) (And.intro (@yieldA_at 6 65) (And.intro (@yieldA_at 10 69) (And.intro (@yieldA_at 14 73) (And.intro (@yieldA_at 18 77) (@yieldA_at 23 82))))))))))))))))) (And.intro (splitI_ac hs) (And.intro (rd_ac (hz 0)) (And.intro (rd_ac (hz 4)) (And.intro (parI_ac (hz 1)) (And.intro (fromI_ok (hz 2) h2) (fromI_ok (hz 3) h3)))))) ?_)
  (exact sR @zeroF.eq_1)
theorem pi7_bad {s : ByteArray} (hs : s.size ≤ 1048576) (h5 : (spA s 47).length = 5) (h2 : hexOk (pcF s 2) = true) (h3 : hexOk (pcF s 3) = true) (hA : numB (pcF s 0) = true) (hD : numB (pcF s 4) = true) (e1 : (parC (pcF s 1) != 0) = false) (e2 : false = false → ((pcF s 2).size / 2 != 16) = true) (e3 : false = false → true = false → ((pcF s 3).size / 2 != 16) = false) (h : List Blk) : AC Tryz.prog 20 [.string s] h (.tuple #[.agg (Ci 0 zeroF zeroF zeroF 0).toArray, .int .i64 6]) h := by
  have hget : ∀ q, q < 5 → (Ss (spA s 47))[q]? = some (.string (pcF s q)) := fun q hq => pc_get (by omega)
  have hz : ∀ q, (pcF s q).size ≤ 1048576 := fun q => Nat.le_trans pcF_le hs
  try simp only [forall_const, Bool.true_eq_false, false_implies] at e2 e3
  (refine AC_begin (fun _ _ => Tryz.call20 _ _) Tryz.func20 rfl Tryz.ntmps20 Tryz.results20 (fun hwf => ?_); simp only [List.length_cons, List.length_nil, Nat.reduceAdd, Nat.reduceSub, List.replicate, List.cons_append, List.nil_append])
  (refine sW (And.intro @hA (And.intro @hD (And.intro @e1 (And.intro @e2 (And.intro @e3 (And.intro @h5 (And.intro (hget 0 (by decide)) (And.intro (hget 1 (by decide)) (And.intro (hget 2 (by decide)) (And.intro (hget 3 (by decide)) (And.intro (hget 4 (by decide)) (And.intro (@yieldA_at 2 61) (And.intro (@yieldA_at 6 65) (And.intro (@yieldA_at 10 69) (And.intro (@yieldA_at 14 73) (And.intro (@yieldA_at 18 77) (@yieldA_at 23 82))))))))))))))))) (And.intro (splitI_ac hs) (And.intro (rd_ac (hz 0)) (And.intro (rd_ac (hz 4)) (And.intro (parI_ac (hz 1)) (And.intro (fromI_ok (hz 2) h2) (fromI_ok (hz 3) h3)))))) ?_)
  (exact sR @zeroF.eq_1)
theorem pi8_bad {s : ByteArray} (hs : s.size ≤ 1048576) (h5 : (spA s 47).length = 5) (h2 : hexOk (pcF s 2) = true) (h3 : hexOk (pcF s 3) = true) (hA : numB (pcF s 0) = true) (hD : numB (pcF s 4) = true) (e1 : (parC (pcF s 1) != 0) = false) (e2 : false = false → ((pcF s 2).size / 2 != 16) = false) (e3 : false = false → false = false → ((pcF s 3).size / 2 != 16) = true) (h : List Blk) : AC Tryz.prog 20 [.string s] h (.tuple #[.agg (Ci 0 zeroF zeroF zeroF 0).toArray, .int .i64 6]) h := by
  have hget : ∀ q, q < 5 → (Ss (spA s 47))[q]? = some (.string (pcF s q)) := fun q hq => pc_get (by omega)
  have hz : ∀ q, (pcF s q).size ≤ 1048576 := fun q => Nat.le_trans pcF_le hs
  try simp only [forall_const, Bool.true_eq_false, false_implies] at e2 e3
  (refine AC_begin (fun _ _ => Tryz.call20 _ _) Tryz.func20 rfl Tryz.ntmps20 Tryz.results20 (fun hwf => ?_); simp only [List.length_cons, List.length_nil, Nat.reduceAdd, Nat.reduceSub, List.replicate, List.cons_append, List.nil_append])
  (refine sW (And.intro @hA (And.intro @hD (And.intro @e1 (And.intro @e2 (And.intro @e3 (And.intro @h5 (And.intro (hget 0 (by decide)) (And.intro (hget 1 (by decide)) (And.intro (hget 2 (by decide)) (And.intro (hget 3 (by decide)) (And.intro (hget 4 (by decide)) (And.intro (@yieldA_at 2 61) (And.intro (@yieldA_at 6 65) (And.intro (@yieldA_at 10 69) (And.intro (@yieldA_at 14 73) (And.intro (@yieldA_at 18 77) (@yieldA_at 23 82))))))))))))))))) (And.intro (splitI_ac hs) (And.intro (rd_ac (hz 0)) (And.intro (rd_ac (hz 4)) (And.intro (parI_ac (hz 1)) (And.intro (fromI_ok (hz 2) h2) (fromI_ok (hz 3) h3)))))) ?_)
  (exact sR @zeroF.eq_1)
set_option maxHeartbeats 8000000 in
theorem pi_ok {s : ByteArray} (hs : s.size ≤ 1048576) (h5 : (spA s 47).length = 5) (h2 : hexOk (pcF s 2) = true) (h3 : hexOk (pcF s 3) = true) (hA : numB (pcF s 0) = true) (hD : numB (pcF s 4) = true) (e1 : parC (pcF s 1) = 0) (e2 : (pcF s 2).size / 2 = 16) (e3 : (pcF s 3).size / 2 = 16) {b : Bool} (hb : cipB (numV (pcF s 0)) (parF (pcF s 1)) (mxV s) (unV (pcF s 3)) (numV (pcF s 4)) = b) (h : List Blk) : AC Tryz.prog 20 [.string s] h (.tuple #[.agg (if b then Ci (numV (pcF s 0)) (parF (pcF s 1)) (mxV s) (unV (pcF s 3)) (numV (pcF s 4)) else Ci 0 zeroF zeroF zeroF 0).toArray, .int .i64 (if b then 0 else 6)]) h := by
  have hget : ∀ q, q < 5 → (Ss (spA s 47))[q]? = some (.string (pcF s q)) := fun q hq => pc_get (by omega)
  have hz : ∀ q, (pcF s q).size ≤ 1048576 := fun q => Nat.le_trans pcF_le hs
  have g2 := fromI_ok (hz 2) h2
  have g3 := fromI_ok (hz 3) h3
  have gr := rd_ac (hz 0)
  have gs := rd_ac (hz 4)
  have gp := parI_ac (hz 1)
  have gc := cipI_ac (numV (pcF s 0)) (numV (pcF s 4)) (parF (pcF s 1)) (mxV s) (unV (pcF s 3))
  rw [e2] at g2
  rw [e3] at g3
  rw [hA] at gr
  rw [hD] at gs
  rw [e1] at gp
  rw [hb] at gc
  unfold mxV at gc ⊢
  (refine AC_begin (fun _ _ => Tryz.call20 _ _) Tryz.func20 rfl Tryz.ntmps20 Tryz.results20 (fun hwf => ?_); simp only [List.length_cons, List.length_nil, Nat.reduceAdd, Nat.reduceSub, List.replicate, List.cons_append, List.nil_append])
  (repeat (first | ((first | (refine And.intro ?_ ?_; focus exact PLA) | ((first | with_reducible apply callB_i | with_reducible apply callK_intro | with_reducible apply callQ_i); (focus (first | assumption | ((first | with_reducible apply splitI_ac hs | with_reducible apply gr | with_reducible apply gs | with_reducible apply gp | with_reducible apply g2 | with_reducible apply g3) <;> (first | assumption | rfl | (simp (disch := omega) only [go_sem]; first | done | rfl) | omega | decide | (simp; done))))); (try exact WP_au)) | refine WA_seq (WA_region ?_) | refine WA_region ?_ | refine WA_exit ?_); try simp (maxSteps := 1000000) (disch := first | omega | rfl | decide | (simp only [List.length_cons, List.length_nil, List.length_append, LV] <;> omega)) only [go_sem, Nat.reduceAdd, Int.reduceAdd, Int.reduceSub, Int.reduceMul, Bool.not_true, Bool.not_false, Ci_splice0, Ci_splice1, Ci_splice3, Ci_splice4, Ci_splice_all, h5, bne_self_eq_false, hget 0 (by decide), hget 1 (by decide), hget 2 (by decide), hget 3 (by decide), hget 4 (by decide), Bool.not_true, Bool.not_false, yieldA_at 2 61, yieldA_at 6 65, yieldA_at 10 69, yieldA_at 14 73, yieldA_at 18 77, yieldA_at 23 82]) | (refine (WA_rbD (id := 12) [11, 13] [2] mixedOk ?_); simp only [List.size_toArray, List.length_cons, List.length_nil, patD_cons, patD_nil, blk_set_zero, blk_set_succ]; (repeat (first | ((first | (refine And.intro ?_ ?_; focus exact PLA) | refine RB_take false [0, 2, 3, 5, 6] 9 (by rfl) (by kernel_rfl) (by decide) (by decide +kernel) ?_ | refine RB_take true [1, 4] 7 (by rfl) (by kernel_rfl) (by decide) (by decide +kernel) ?_ | refine RB_keep 7 _ (by rfl) (by decide +kernel) (by first | (simp (disch := first | omega | decide) only [go_sem, List.getElem?_nil]; done) | fail) ?_ | refine RB_take false [8] 5 (by rfl) (by kernel_rfl) (by decide) (by decide +kernel) ?_ | refine RB_keep 9 _ (by rfl) (by decide +kernel) (by first | (simp (disch := first | omega | decide) only [go_sem, List.getElem?_nil]; done) | fail) ?_ | refine RB_take false [10] 3 (by rfl) (by kernel_rfl) (by decide) (by decide +kernel) ?_ | refine RB_exec 11 _ (by rfl) (by decide +kernel) (by decide +kernel) ?_ | refine RB_take false [12] 1 (by rfl) (by kernel_rfl) (by decide) (by decide +kernel) ?_ | refine RB_exec 13 _ (by rfl) (by decide +kernel) (by decide +kernel) ?_ | refine RB_done (by decide +kernel) ?_); try simp (maxSteps := 1000000) (disch := first | omega | rfl | decide | (simp only [List.length_cons, List.length_nil, List.length_append, LV] <;> omega)) only [go_sem, Nat.reduceAdd, Int.reduceAdd, Int.reduceSub, Int.reduceMul, Bool.not_true, Bool.not_false, Ci_splice0, Ci_splice1, Ci_splice3, Ci_splice4, Ci_splice_all, h5, bne_self_eq_false, hget 0 (by decide), hget 1 (by decide), hget 2 (by decide), hget 3 (by decide), hget 4 (by decide), Bool.not_true, Bool.not_false, yieldA_at 2 61, yieldA_at 6 65, yieldA_at 10 69, yieldA_at 14 73, yieldA_at 18 77, yieldA_at 23 82])))) | refine WA_seq ?_ | refine WA_block ?_ | (refine WA_skip ?_; try simp only [go_sem]) | (refine WA_ret ?_; try simp only [go_sem]) | refine WA_ct rfl ?_ | refine WA_cf rfl ?_))
  refine WA_forH (fun k => [(16, J), (98, .int .i64 k), (99, J), (100, J), (101, J), (102, J), (103, J), (104, J), (105, J), (106, J), (107, J), (108, J), (109, J), (110, J), (111, J), (112, J), (113, J)]) (fun k => h ++ [⟨Ci 0 zeroF zeroF zeroF 0, true⟩, ⟨Ss (spA s 47), true⟩, ⟨Ci (numV (pcF s 0)) (parF (pcF s 1)) (pre (k * 4) (unV (pcF s 2)) zeroF) (unV (pcF s 3)) (numV (pcF s 4)), true⟩, ⟨Bs 256 (parF (pcF s 1)), true⟩, ⟨Bs 16 (unV (pcF s 2)), true⟩, ⟨Bs 16 (unV (pcF s 3)), true⟩]) (4) ?_ ?_ ?_ <;> (try simp only [patT_cons, patT_nil, patL_cons, patL_nil, list_set_zero, list_set_succ, blk_set_zero, blk_set_succ])
  · rw [Nat.zero_mul, pre_zero]
    (exact sS @zeroF.eq_1)
  · intro q hq
    (refine sN (And.intro @Ci_splicein2 (And.intro @Ci_storein2 (And.intro @over_pre4' (And.intro (@yieldA_at 2 61) (And.intro (@yieldA_at 6 65) (And.intro (@yieldA_at 10 69) (And.intro (@yieldA_at 14 73) (And.intro (@yieldA_at 18 77) (@yieldA_at 23 82))))))))) ?_)
    (exact sS0)
  · cases b
    · (refine sW (And.intro @Ci_splice_all (And.intro (@yieldA_at 2 61) (And.intro (@yieldA_at 6 65) (And.intro (@yieldA_at 10 69) (And.intro (@yieldA_at 14 73) (And.intro (@yieldA_at 18 77) (@yieldA_at 23 82))))))) @gc ?_)
      (exact sR @zeroF.eq_1)
    · (refine sW (And.intro @Ci_splice_all (And.intro (@yieldA_at 2 61) (And.intro (@yieldA_at 6 65) (And.intro (@yieldA_at 10 69) (And.intro (@yieldA_at 14 73) (And.intro (@yieldA_at 18 77) (@yieldA_at 23 82))))))) @gc ?_)
      (exact sR0)

end Go.Proofs.YtkdpjkpedklbpaaGreatDoor
/- ParseCipher: the program's reading whole; the law. -/
namespace Go.Proofs.YtkdpjkpedklbpaaGreatDoor
set_option linter.unusedSimpArgs false
set_option linter.unusedVariables false
set_option maxRecDepth 20000
set_option maxHeartbeats 1000000
open Go.Abs

attribute [local irreducible] ch unV pcF spA hexOk numN numB numV cipB parF parC
theorem rd_no_pc {s : ByteArray} (h : pcOk s = false) : rdOk s = false := by unfold rdOk; rw [h, Bool.false_and]
theorem rd_no_num {s : ByteArray} (h : numB (pcF s 0) = false ∨ numB (pcF s 4) = false) : rdOk s = false := by unfold rdOk; rw [cip_num h, Bool.and_false]
theorem pcI_ac {s : ByteArray} (hs : s.size ≤ 1048576) (h : List Blk) : AC Tryz.prog 20 [.string s] h (.tuple #[.agg (Ci (rdM s) (rdX s) (rdY s) (rdP s) (rdR s)).toArray, .int .i64 (rdC s)]) h := by
  have bad : rdOk s = false → AC Tryz.prog 20 [.string s] h (.tuple #[.agg (Ci 0 zeroF zeroF zeroF 0).toArray, .int .i64 6]) h → AC Tryz.prog 20 [.string s] h (.tuple #[.agg (Ci (rdM s) (rdX s) (rdY s) (rdP s) (rdR s)).toArray, .int .i64 (rdC s)]) h := fun h0 h1 => by
    unfold rdM rdX rdY rdP rdR rdC
    rw [h0]; exact h1
  by_cases h5 : (spA s 47).length = 5
  · have hpc : pcOk s = ((hexOk (pcF s 1) && (hexOk (pcF s 2) && hexOk (pcF s 3))) && ((pcF s 1).size / 2 == 256 && ((pcF s 2).size / 2 == 16 && (pcF s 3).size / 2 == 16))) := by unfold pcOk; rw [decide_eq_true h5, Bool.true_and]
    cases h2 : hexOk (pcF s 2)
    · have h0 := rd_no_pc (s := s) (by rw [hpc, h2]; simp only [Bool.false_and, Bool.and_false])
      cases h3 : hexOk (pcF s 3)
      · exact bad h0 (pi0_bad hs h5 h2 h3 h)
      · exact bad h0 (pi1_bad hs h5 h2 h3 h)
    · cases h3 : hexOk (pcF s 3)
      · exact bad (rd_no_pc (s := s) (by rw [hpc, h3]; simp only [Bool.false_and, Bool.and_false])) (pi2_bad hs h5 h2 h3 h)
      · cases hA : numB (pcF s 0)
        · have h0 := rd_no_num (s := s) (.inl hA)
          cases hD : numB (pcF s 4)
          · exact bad h0 (pi3_bad hs h5 h2 h3 hA hD h)
          · exact bad h0 (pi4_bad hs h5 h2 h3 hA hD h)
        · cases hD : numB (pcF s 4)
          · exact bad (rd_no_num (s := s) (.inr hD)) (pi5_bad hs h5 h2 h3 hA hD h)
          · cases e1 : (parC (pcF s 1) != 0)
            · have p1 : parC (pcF s 1) = 0 := by rw [bne, Bool.not_eq_false', beq_iff_eq] at e1; exact e1
              obtain ⟨q1, q2, q3⟩ := par_t p1
              cases e2 : ((pcF s 2).size / 2 != 16)
              · have p2 : (pcF s 2).size / 2 = 16 := by rw [bne, Bool.not_eq_false', beq_iff_eq] at e2; exact e2
                cases e3 : ((pcF s 3).size / 2 != 16)
                · have p3 : (pcF s 3).size / 2 = 16 := by rw [bne, Bool.not_eq_false', beq_iff_eq] at e3; exact e3
                  have hp : pcOk s = true := by rw [hpc, q1, h2, h3, q2, p2, p3]; rfl
                  have k := pi_ok hs h5 h2 h3 hA hD p1 p2 p3 (b := rdOk s) (by
                    unfold rdOk
                    rw [hp, Bool.true_and, numN_t hA, numN_t hD, q3]) h
                  rw [q3, ← numN_t hA, ← numN_t hD] at k
                  unfold rdM rdX rdY rdP rdR rdC
                  cases hr : rdOk s
                  · rw [hr] at k; exact k
                  · rw [hr] at k; exact k
                · have e3' : ((pcF s 3).size / 2 == 16) = false := by rw [bne, Bool.not_eq_true'] at e3; exact e3
                  exact bad (rd_no_pc (s := s) (by rw [hpc, e3']; simp only [Bool.and_false])) (pi8_bad hs h5 h2 h3 hA hD e1 (fun _ => e2) (fun _ _ => e3) h)
              · have e2' : ((pcF s 2).size / 2 == 16) = false := by rw [bne, Bool.not_eq_true'] at e2; exact e2
                exact bad (rd_no_pc (s := s) (by rw [hpc, e2']; simp only [Bool.false_and, Bool.and_false])) (pi7_bad hs h5 h2 h3 hA hD e1 (fun _ => e2) (fun _ h => by cases h) h)
            · have hx := par_ff e1
              refine bad (rd_no_pc (s := s) ?_) (pi6_bad hs h5 h2 h3 hA hD e1 (fun h => by cases h) (fun h => by cases h) h)
              rw [hpc, h2, h3]
              cases q1 : hexOk (pcF s 1)
              · rfl
              · rw [par_f e1 q1]; rfl
  · exact bad (rd_no_pc (s := s) (by unfold pcOk; rw [decide_eq_false h5, Bool.false_and])) (pi_len hs h5 h)

end Go.Proofs.YtkdpjkpedklbpaaGreatDoor
/- A cipher's text is parsed to the cipher. Plain. -/
namespace Go.Proofs.YtkdpjkpedklbpaaGreatDoor
set_option linter.unusedSimpArgs false
set_option linter.unusedVariables false
set_option maxRecDepth 20000
set_option maxHeartbeats 1000000
open Go.Abs

theorem cutL_free {c : UInt8} : ∀ {l : List UInt8}, (∀ x, x ∈ l → x ≠ c) → cutL c l = [l]
  | [], _ => rfl
  | b :: l, h => by
    rw [cutL_other (h b (List.mem_cons_self ..)), cutL_free fun x hx => h x (List.mem_cons_of_mem _ hx)]; rfl
theorem cutL_at {c : UInt8} : ∀ {l : List UInt8} (r : List UInt8), (∀ x, x ∈ l → x ≠ c) → cutL c (l ++ c :: r) = l :: cutL c r
  | [], r, _ => cutL_eq c r
  | b :: l, r, h => by
    rw [List.cons_append, cutL_other (h b (List.mem_cons_self ..)), cutL_at r fun x hx => h x (List.mem_cons_of_mem _ hx)]; rfl
theorem hx_no47 (f : Nat → UInt8) (n : Nat) : ∀ x, x ∈ hx f n → x ≠ 47 := fun x hx e => by
  have h := hx_filter f n
  subst e
  rw [← h] at hx
  exact absurd (List.mem_filter.1 hx).2 (by decide)
theorem dig_no47 {l : List UInt8} (h : l.all isDig = true) : ∀ x, x ∈ l → x ≠ 47 := fun x hx e => by
  have := List.all_eq_true.1 h x hx
  subst e
  exact absurd this (by decide)
theorem itoa_digs (u : Nat) : (Lib.itoa (u : Int)).all isDig = true := by
  rw [Lib.itoa_nonneg]; exact (dec_good u u (Nat.le_refl _)).2.1
theorem val_dec (n : Nat) : ∀ u, u ≤ n → valL 0 (Lib.decDigits u) = u := by
  have hd : ∀ i, i < 10 → (UInt8.ofNat (48 + i)).toNat - 48 = i := fun i hi => by rw [UInt8.toNat_ofNat', Nat.mod_eq_of_lt (by omega)]; omega
  induction n with
  | zero =>
    intro u hu
    obtain rfl : u = 0 := by omega
    rw [Lib.decDigits_one (by decide)]; rfl
  | succ n ih =>
    intro u hu
    by_cases h : u < 10
    · rw [Lib.decDigits_one h]
      show 0 * 10 + ((UInt8.ofNat (48 + u)).toNat - 48) = u
      rw [hd u h]; omega
    · rw [dec_step h, valL_snoc, ih (u / 10) (by omega), hd _ (Nat.mod_lt _ (by decide))]; omega
theorem num_dT {u : Nat} (hu : u < 1000) (hs : (dT u).size ≤ 9) : numB (dT u) = true ∧ numV (dT u) = u := by
  have e : (dT u).data.toList = Lib.itoa (u : Int) := rfl
  have h1 : numB (dT u) = true := num_of (v := (u : Int)) (by omega) (by rw [← sz_l]; exact hs) rfl
  refine ⟨h1, ?_⟩
  unfold numV
  rw [if_pos h1, e, Lib.itoa_nonneg, val_dec u u (Nat.le_refl _)]
theorem spA_ciT (m r : Nat) (bx mx pl : Nat → UInt8) : spA (ciT m bx mx pl r) 47 = [dT m, hxT bx 256, hxT mx 16, hxT pl 16, dT r] := map_ba (by
  have e : (ciT m bx mx pl r).data.toList = Lib.itoa (m : Int) ++ 47 :: (hx bx 256 ++ 47 :: (hx mx 16 ++ 47 :: (hx pl 16 ++ 47 :: Lib.itoa (r : Int)))) := by
    unfold ciT
    simp only [app_list]
    show Lib.itoa (m : Int) ++ [47] ++ hx bx 256 ++ [47] ++ hx mx 16 ++ [47] ++ hx pl 16 ++ [47] ++ Lib.itoa (r : Int) = _
    simp only [List.append_assoc, List.cons_append, List.nil_append]
  rw [spA_cut, e, cutL_at _ (dig_no47 (itoa_digs m)), cutL_at _ (hx_no47 bx 256), cutL_at _ (hx_no47 mx 16), cutL_at _ (hx_no47 pl 16), cutL_free (dig_no47 (itoa_digs r))]
  rfl)
/-- A cipher's parts as its text tells them. -/
structure Nrm (bx mx pl : Nat → UInt8) : Prop where
  x : unV (hxT bx 256) = bx
  y : pre (4 * 4) (unV (hxT mx 16)) zeroF = mx
  p : unV (hxT pl 16) = pl
theorem unV_idem (f : Nat → UInt8) (n : Nat) : unV (hxT (unV (hxT f n)) n) = unV (hxT f n) := by
  rw [hxT_congr (g := f) fun i hi => (hxT_good f n).2 i hi]
theorem Ci_nrm (m : Int) (bx mx pl : Nat → UInt8) (r : Int) : ∃ bx' mx' pl', Nrm bx' mx' pl' ∧ Ci m bx mx pl r = Ci m bx' mx' pl' r := by
  refine ⟨unV (hxT bx 256), pre (4 * 4) (unV (hxT mx 16)) zeroF, unV (hxT pl 16), ⟨unV_idem _ _, ?_, unV_idem _ _⟩, ?_⟩
  · have : hxT (pre (4 * 4) (unV (hxT mx 16)) zeroF) 16 = hxT mx 16 := hxT_congr fun i hi => by
      unfold pre
      rw [if_pos (show i < 4 * 4 by omega)]
      exact (hxT_good mx 16).2 i hi
    rw [this]
  · unfold Ci
    rw [Bs_congr (f := bx) fun i hi => ((hxT_good bx 256).2 i hi).symm, Bs_congr (f := pl) fun i hi => ((hxT_good pl 16).2 i hi).symm,
      Bs_congr (f := mx) (g := pre (4 * 4) (unV (hxT mx 16)) zeroF) fun i hi => by
        unfold pre
        rw [if_pos (show i < 4 * 4 by omega)]
        exact ((hxT_good mx 16).2 i hi).symm]
theorem rd_ciT {m r : Nat} {bx mx pl : Nat → UInt8} (hm : m < 1000) (hr : r < 1000) (hsm : (dT m).size ≤ 9) (hsr : (dT r).size ≤ 9) (hn : Nrm bx mx pl) (hc : cipB m bx mx pl r = true) :
    rdC (ciT m bx mx pl r) = 0 ∧ rdM (ciT m bx mx pl r) = m ∧ rdX (ciT m bx mx pl r) = bx ∧ rdY (ciT m bx mx pl r) = mx ∧ rdP (ciT m bx mx pl r) = pl ∧ rdR (ciT m bx mx pl r) = r := by
  have hs := spA_ciT m r bx mx pl
  have p0 : pcF (ciT m bx mx pl r) 0 = dT m := by unfold pcF; rw [hs]; rfl
  have p1 : pcF (ciT m bx mx pl r) 1 = hxT bx 256 := by unfold pcF; rw [hs]; rfl
  have p2 : pcF (ciT m bx mx pl r) 2 = hxT mx 16 := by unfold pcF; rw [hs]; rfl
  have p3 : pcF (ciT m bx mx pl r) 3 = hxT pl 16 := by unfold pcF; rw [hs]; rfl
  have p4 : pcF (ciT m bx mx pl r) 4 = dT r := by unfold pcF; rw [hs]; rfl
  obtain ⟨m1, m2⟩ := num_dT hm hsm
  obtain ⟨r1, r2⟩ := num_dT hr hsr
  have n0 : numN (pcF (ciT m bx mx pl r) 0) = m := by rw [p0]; unfold numN; rw [if_pos m1, m2]
  have n4 : numN (pcF (ciT m bx mx pl r) 4) = r := by rw [p4]; unfold numN; rw [if_pos r1, r2]
  have u1 : unV (pcF (ciT m bx mx pl r) 1) = bx := by rw [p1, hn.x]
  have u2 : mxV (ciT m bx mx pl r) = mx := by unfold mxV; rw [p2, hn.y]
  have u3 : unV (pcF (ciT m bx mx pl r) 3) = pl := by rw [p3, hn.p]
  have hp : pcOk (ciT m bx mx pl r) = true := by
    unfold pcOk
    rw [p1, p2, p3, (hxT_good bx 256).1, (hxT_good mx 16).1, (hxT_good pl 16).1, hxT_size, hxT_size, hxT_size, hs]; rfl
  have ho : rdOk (ciT m bx mx pl r) = true := by
    unfold rdOk
    rw [hp, n0, n4, u1, u2, u3, hc]; rfl
  unfold rdC rdM rdX rdY rdP rdR
  rw [ho, n0, n4, u1, u2, u3]
  exact ⟨rfl, rfl, rfl, rfl, rfl, rfl⟩
end Go.Proofs.YtkdpjkpedklbpaaGreatDoor
