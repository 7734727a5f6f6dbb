/- A part of the proof of FnKeysAndTexts. -/
import Derived.Lib.AppendIntMem
import Derived.Test.YtkdpjkpedklbpaaGreatDoorQKTH
import Derived.Test.YtkdpjkpedklbpaaGreatDoorQKT1
import Derived.Test.YtkdpjkpedklbpaaGreatDoorQKT3
/- Texts of bytes: bytes of texts, boxes of texts. -/
namespace Go.Proofs.YtkdpjkpedklbpaaGreatDoor
set_option linter.unusedSimpArgs false
set_option linter.unusedVariables false
set_option maxRecDepth 20000
set_option maxHeartbeats 1000000
open Go.Abs

theorem Bs_snoc1 {n : Nat} (f : Nat → UInt8) : Bs n f ++ [B (f n)] = Bs (n + 1) f := by
  unfold Bs; rw [List.range_succ, List.map_append]; rfl
theorem nib_or0 : ∀ d, d < 16 → ∀ e, e < 16 → (UInt8.ofNat (d * 16) ||| UInt8.ofNat e) = UInt8.ofNat (16 * d + e) := by decide +kernel
theorem nib_or {d e : UInt8} (hd : d.toNat < 16) (he : e.toNat < 16) : (UInt8.ofNat (d.toNat * 16) ||| e) = UInt8.ofNat (16 * d.toNat + e.toNat) := by
  have := nib_or0 d.toNat hd e.toNat he
  rwa [UInt8.ofNat_toNat] at this
theorem shl4 {P : Program} {T : TypeId} (k : IntKind) (d : UInt8) : abin P .shl T (B d) (.int k 4) = some (B (UInt8.ofNat (d.toNat * 16))) := by
  have := abin_shl_I (P := P) (T := T) .u8 k (d.toNat : Int) 4 (by omega)
  show abin P .shl T (.int .u8 (d.toNat : Int)) (.int k 4) = _
  rw [this, wrap_B, show min (Int.toNat 4) IntKind.u8.bits = 4 from rfl, show ((d.toNat : Int) * 2 ^ 4) = ((d.toNat * 16 : Nat) : Int) by rw [Int.natCast_mul]; rfl, toB_nat]
theorem allT_first {f : Nat → Bool} : ∀ {n : Nat}, allT f n = false → ∃ i, i < n ∧ f i = false ∧ allT f i = true
  | 0, h => by cases h
  | n + 1, h => by
    cases hn : allT f n with
    | false => obtain ⟨i, h1, h2, h3⟩ := allT_first hn; exact ⟨i, by omega, h2, h3⟩
    | true =>
      cases hf : f n with
      | false => exact ⟨n, by omega, hf, hn⟩
      | true => rw [allT_s hn hf] at h; cases h
theorem allT_get {f : Nat → Bool} {n i : Nat} (h : allT f n = true) (hi : i < n) : f i = true := List.all_eq_true.1 h i (List.mem_range.2 hi)
theorem gdP_t {s : ByteArray} {k : Nat} (h : gdP s k = true) : digOk (ch s (2 * k)) = true ∧ digOk (ch s (2 * k + 1)) = true := by
  unfold gdP at h; rwa [Bool.and_eq_true] at h
theorem digI_t {c : UInt8} (h : digOk c = true) : digI c = (((digV c).toNat : Nat) : Int) := if_pos h
theorem digI_f {c : UInt8} (h : digOk c = false) : digI c = -1 := if_neg (by rw [h]; decide)
theorem ch_is (s : ByteArray) (i : Nat) : s.data.getD i 0 = ch s i := rfl
theorem unV_is (s : ByteArray) (k : Nat) : UInt8.ofNat (16 * (digV (ch s (2 * k))).toNat + (digV (ch s (2 * k + 1))).toNat) = unV s k := rfl
def digI0 (a b c d : Bool) (x : UInt8) : Int := if a && b then ((x - 48).toNat : Int) else if c && d then (((x - 97).toNat + 10 : Nat) : Int) else -1
theorem dig10 : ∀ n, n < 256 → 97 ≤ UInt8.ofNat n → UInt8.ofNat n ≤ 102 → (UInt8.ofNat n - 97 + 10).toNat = (UInt8.ofNat n - 97).toNat + 10 := by decide +kernel
theorem dig_I (c : UInt8) : digI c = digI0 (decide (48 ≤ c)) (decide (c ≤ 57)) (decide (97 ≤ c)) (decide (c ≤ 102)) c := by
  unfold digI digI0 digOk digV
  cases e : (decide (48 ≤ c) && decide (c ≤ 57))
  · cases e2 : (decide (97 ≤ c) && decide (c ≤ 102))
    · rfl
    · rw [Bool.and_eq_true, decide_eq_true_eq, decide_eq_true_eq] at e2
      have := dig10 c.toNat (u8_lt c)
      rw [UInt8.ofNat_toNat] at this
      show (((c - 97 + 10).toNat : Nat) : Int) = _
      rw [this e2.1 e2.2]; rfl
  · rfl
attribute [local irreducible] ch unV digV digOk
theorem fromI_ok {s : ByteArray} (hs : s.size ≤ 1048576) (hx : hexOk s = true) (h : List Blk) : AC Tryz.prog 52 [.string s] h (.tuple #[sl h.length 0 (s.size / 2) 1, .bool true]) (h ++ [⟨Bs (s.size / 2) (unV s), true⟩]) := by
  unfold hexOk at hx
  rw [Bool.and_eq_true, beq_iff_eq] at hx
  obtain ⟨h0, h1⟩ := hx
  have hb0 : (s.size % 2 == 1) = false := by rw [h0]; rfl
  (refine AC_begin (fun _ _ => Tryz.call52 _ _) Tryz.func52 rfl Tryz.ntmps52 Tryz.results52 (fun hwf => ?_); simp only [List.length_cons, List.length_nil, Nat.reduceAdd, Nat.reduceSub, List.replicate, List.cons_append, List.nil_append])
  (refine sN (And.intro @hb0 (@yieldA_at 2 38)) ?_)
  refine WA_forP (fun k => [(2, J), (3, J), (4, sl h.length 0 k 1), (5, .int .i64 ((2 * k : Nat))), (6, J), (7, J), (8, J), (9, J), (10, J), (15, J), (16, J), (17, J), (18, J), (19, J), (20, J), (21, J), (22, J), (23, J), (24, J), (25, J), (26, J), (27, J), (28, J), (29, J), (30, J), (31, J), (32, J), (33, J), (34, J), (35, J), (36, J), (37, J), (38, J), (39, J), (40, J), (41, J), (42, J), (43, J), (44, J), (45, J), (46, J), (47, J), (48, J)]) (fun k => [(0, ⟨Bs k (unV s), true⟩)]) (s.size / 2) ?_ ?_ ?_ <;> (try simp only [patT_cons, patT_nil, patL_cons, patL_nil, list_set_zero, list_set_succ, blk_set_zero, blk_set_succ])
  · rw [Nat.mul_zero]
    (exact sS0)
  · intro k hk
    obtain ⟨g0, g1⟩ := gdP_t (allT_get h1 hk)
    have v0 := (hex_dig g0).2
    have v1 := (hex_dig g1).2
    have hor := nib_or v0 v1
    rw [unV_is] at hor
    (repeat (first | ((first | (refine And.intro ?_ ?_; focus exact PLA) | ((first | with_reducible apply callB_i | with_reducible apply callK_intro | with_reducible apply callQ_i); (focus (first | assumption | (with_reducible apply digI_ac <;> (first | assumption | rfl | (simp (disch := omega) only [go_sem]; first | done | rfl) | omega | decide | (simp; done))))); (try exact WP_au)) | refine WA_seq (WA_region ?_) | refine WA_region ?_ | refine WA_exit ?_); try simp (maxSteps := 1000000) (disch := first | omega | rfl | decide | (simp only [List.length_cons, List.length_nil, List.length_append, LV] <;> omega)) only [go_sem, Nat.reduceAdd, Int.reduceAdd, Int.reduceSub, Int.reduceMul, Bool.not_true, Bool.not_false, ch_is, g0, g1, if_true, Bool.not_true, shl4, hor, sub1, Bs_snoc1, yieldA_at 2 38]) | refine WA_seq ?_ | refine WA_block ?_ | (refine WA_skip ?_; try simp only [go_sem]) | (refine WA_ret ?_; try simp only [go_sem]) | refine WA_ct rfl ?_ | refine WA_cf rfl ?_))
    rw [show 2 * (k + 1) = 2 * k + 2 by omega]
    (exact gC [2])
  · (refine sN (@yieldA_at 2 38) ?_)
    (exact sR0)
theorem fromI_no {s : ByteArray} (hs : s.size ≤ 1048576) (hx : hexOk s = false) (h : List Blk) : AC Tryz.prog 52 [.string s] h (.tuple #[.slice none 0 0, .bool false]) h := by
  unfold hexOk at hx
  by_cases h0 : s.size % 2 = 0
  · have hb0 : (s.size % 2 == 1) = false := by rw [h0]; rfl
    rw [h0] at hx
    obtain ⟨i, hi, hf, hall⟩ := allT_first hx
    (refine AC_begin (fun _ _ => Tryz.call52 _ _) Tryz.func52 rfl Tryz.ntmps52 Tryz.results52 (fun hwf => ?_); simp only [List.length_cons, List.length_nil, Nat.reduceAdd, Nat.reduceSub, List.replicate, List.cons_append, List.nil_append])
    (refine sN (And.intro @hb0 (@yieldA_at 2 38)) ?_)
    refine WA_forP (fun k => [(2, J), (3, J), (4, sl h.length 0 k 1), (5, .int .i64 ((2 * k : Nat))), (6, J), (7, J), (8, J), (9, J), (10, J), (15, J), (16, J), (17, J), (18, J), (19, J), (20, J), (21, J), (22, J), (23, J), (24, J), (25, J), (26, J), (27, J), (28, J), (29, J), (30, J), (31, J), (32, J), (33, J), (34, J), (35, J), (36, J), (37, J), (38, J), (39, J), (40, J), (41, J), (42, J), (43, J), (44, J), (45, J), (46, J), (47, J), (48, J)]) (fun k => [(0, ⟨Bs k (unV s), true⟩)]) (i) ?_ ?_ ?_ <;> (try simp only [patT_cons, patT_nil, patL_cons, patL_nil, list_set_zero, list_set_succ, blk_set_zero, blk_set_succ])
    · rw [Nat.mul_zero]
      (exact sS0)
    · intro k hk
      obtain ⟨g0, g1⟩ := gdP_t (allT_get hall hk)
      have v0 := (hex_dig g0).2
      have v1 := (hex_dig g1).2
      have hor := nib_or v0 v1
      rw [unV_is] at hor
      (repeat (first | ((first | (refine And.intro ?_ ?_; focus exact PLA) | ((first | with_reducible apply callB_i | with_reducible apply callK_intro | with_reducible apply callQ_i); (focus (first | assumption | (with_reducible apply digI_ac <;> (first | assumption | rfl | (simp (disch := omega) only [go_sem]; first | done | rfl) | omega | decide | (simp; done))))); (try exact WP_au)) | refine WA_seq (WA_region ?_) | refine WA_region ?_ | refine WA_exit ?_); try simp (maxSteps := 1000000) (disch := first | omega | rfl | decide | (simp only [List.length_cons, List.length_nil, List.length_append, LV] <;> omega)) only [go_sem, Nat.reduceAdd, Int.reduceAdd, Int.reduceSub, Int.reduceMul, Bool.not_true, Bool.not_false, ch_is, g0, g1, if_true, Bool.not_true, shl4, hor, sub1, Bs_snoc1, yieldA_at 2 38]) | refine WA_seq ?_ | refine WA_block ?_ | (refine WA_skip ?_; try simp only [go_sem]) | (refine WA_ret ?_; try simp only [go_sem]) | refine WA_ct rfl ?_ | refine WA_cf rfl ?_))
      rw [show 2 * (k + 1) = 2 * k + 2 by omega]
      (exact gC [2])
    · unfold gdP at hf
      cases g0 : digOk (ch s (2 * i)) <;> cases g1 : digOk (ch s (2 * i + 1))
      all_goals try (rw [g0, g1] at hf; cases hf; done)
      all_goals ((refine sW (And.intro @ch_is (And.intro @g0 (And.intro @g1 (@yieldA_at 2 38)))) @digI_ac ?_))
      all_goals (exact sR0)
  · have hb0 : (s.size % 2 == 1) = true := by rw [show s.size % 2 = 1 by omega]; rfl
    (refine AC_begin (fun _ _ => Tryz.call52 _ _) Tryz.func52 rfl Tryz.ntmps52 Tryz.results52 (fun hwf => ?_); simp only [List.length_cons, List.length_nil, Nat.reduceAdd, Nat.reduceSub, List.replicate, List.cons_append, List.nil_append])
    (refine sN (And.intro @hb0 (@yieldA_at 2 38)) ?_)
    (exact sR0)

theorem digS_ac (c : UInt8) (h : List Blk) : AC Tryz.prog 122 [B c] h (.int .i64 (digI c)) h := by
  have l1 := u8_lt (c - 48)
  have l2 := u8_lt (c - 97)
  have w1 := wrap_N (n := (c - 48).toNat) (by omega)
  have w2 := wrap_N (n := (c - 97).toNat) (by omega)
  have w3 : IntKind.i64.wrap (((c - 97).toNat : Int) + 10) = (((c - 97).toNat + 10 : Nat) : Int) := wrap_N (n := (c - 97).toNat + 10) (by omega)
  (refine AC_begin (fun _ _ => Tryz.call122 _ _) Tryz.func122 rfl Tryz.ntmps122 Tryz.results122 (fun hwf => ?_); simp only [List.length_cons, List.length_nil, Nat.reduceAdd, Nat.reduceSub, List.replicate, List.cons_append, List.nil_append])
  cases e1 : decide (48 ≤ c) <;> cases e2 : decide (c ≤ 57) <;> cases e3 : decide (97 ≤ c) <;> cases e4 : decide (c ≤ 102)
  all_goals ((refine sN (And.intro @e1 (And.intro @e2 (And.intro @e3 (And.intro @e4 (And.intro @w1 (And.intro @w2 (And.intro @w3 (And.intro (@yieldA_at 2 6) (@yieldA_at 2 16))))))))) ?_))
  all_goals ((exact sR (And.intro @dig_I (And.intro @digI0.eq_1 (And.intro @w1 (And.intro @w2 (And.intro @w3 (And.intro @e1 (And.intro @e2 (And.intro @e3 (And.intro @e4 (And.intro @Bool.and_true (And.intro @Bool.and_false (And.intro @Bool.or_true @Bool.or_false))))))))))))))

theorem fromS_ok {s : ByteArray} (hs : s.size ≤ 1048576) (hx : hexOk s = true) (h : List Blk) : AC Tryz.prog 92 [.string s] h (.tuple #[sl h.length 0 (s.size / 2) 1, .bool true]) (h ++ [⟨Bs (s.size / 2) (unV s), true⟩]) := by
  unfold hexOk at hx
  rw [Bool.and_eq_true, beq_iff_eq] at hx
  obtain ⟨h0, h1⟩ := hx
  have hb0 : (s.size % 2 != 0) = false := by rw [h0]; rfl
  (refine AC_begin (fun _ _ => Tryz.call92 _ _) Tryz.func92 rfl Tryz.ntmps92 Tryz.results92 (fun hwf => ?_); simp only [List.length_cons, List.length_nil, Nat.reduceAdd, Nat.reduceSub, List.replicate, List.cons_append, List.nil_append])
  (refine sN (And.intro @hb0 (@yieldA_at 2 31)) ?_)
  refine WA_forP (fun k => [(2, J), (3, J), (4, sl h.length 0 k 1), (5, .int .i64 ((2 * k : Nat))), (6, J), (7, J), (8, J), (13, J), (14, J), (15, J), (16, J), (17, J), (18, J), (19, J), (20, J), (21, J), (22, J), (23, J), (24, J), (25, J), (26, J), (27, J), (28, J), (29, J), (30, J), (31, J), (32, J), (33, J), (34, J), (35, J), (36, J), (37, J), (38, J), (39, J), (40, J), (41, J), (42, J)]) (fun k => [(0, ⟨Bs k (unV s), true⟩)]) (s.size / 2) ?_ ?_ ?_ <;> (try simp only [patT_cons, patT_nil, patL_cons, patL_nil, list_set_zero, list_set_succ, blk_set_zero, blk_set_succ])
  · rw [Nat.mul_zero]
    (exact sS0)
  · intro k hk
    obtain ⟨g0, g1⟩ := gdP_t (allT_get h1 hk)
    have v0 := (hex_dig g0).2
    have v1 := (hex_dig g1).2
    (repeat (first | ((first | (refine And.intro ?_ ?_; focus exact PLA) | ((first | with_reducible apply callB_i | with_reducible apply callK_intro | with_reducible apply callQ_i); (focus (first | assumption | (with_reducible apply digS_ac <;> (first | assumption | rfl | (simp (disch := omega) only [go_sem]; first | done | rfl) | omega | decide | (simp; done))))); (try exact WP_au)) | refine WA_seq (WA_region ?_) | refine WA_region ?_ | refine WA_exit ?_); try simp (maxSteps := 1000000) (disch := first | omega | rfl | decide | (simp only [List.length_cons, List.length_nil, List.length_append, LV] <;> omega)) only [go_sem, Nat.reduceAdd, Int.reduceAdd, Int.reduceSub, Int.reduceMul, Bool.not_true, Bool.not_false, ch_is, digI_t g0, digI_t g1, Nat.not_lt_zero, decide_false, unV_is, sub1, Bs_snoc1, yieldA_at 2 31]) | (refine WA_seq (WA_draw (id := 7) mixedOk (by kernel_rfl) ?_); simp (maxSteps := 1000000) (disch := first | omega | rfl | decide | (simp only [List.length_cons, List.length_nil, List.length_append, LV] <;> omega)) only [go_sem, Nat.reduceAdd, Int.reduceAdd, Int.reduceSub, Int.reduceMul, Bool.not_true, Bool.not_false, ch_is, digI_t g0, digI_t g1, Nat.not_lt_zero, decide_false, unV_is, sub1, Bs_snoc1, yieldA_at 2 31]) | (refine WA_draw (id := 7) mixedOk (by kernel_rfl) ?_; simp (maxSteps := 1000000) (disch := first | omega | rfl | decide | (simp only [List.length_cons, List.length_nil, List.length_append, LV] <;> omega)) only [go_sem, Nat.reduceAdd, Int.reduceAdd, Int.reduceSub, Int.reduceMul, Bool.not_true, Bool.not_false, ch_is, digI_t g0, digI_t g1, Nat.not_lt_zero, decide_false, unV_is, sub1, Bs_snoc1, yieldA_at 2 31]) | refine WA_seq ?_ | refine WA_block ?_ | (refine WA_skip ?_; try simp only [go_sem]) | (refine WA_ret ?_; try simp only [go_sem]) | refine WA_ct rfl ?_ | refine WA_cf rfl ?_))
    rw [show 2 * (k + 1) = 2 * k + 2 by omega]
    (exact gC [2])
  · (refine sN (@yieldA_at 2 31) ?_)
    (exact sR0)
theorem fromS_no {s : ByteArray} (hs : s.size ≤ 1048576) (hx : hexOk s = false) (h : List Blk) : AC Tryz.prog 92 [.string s] h (.tuple #[.slice none 0 0, .bool false]) h := by
  unfold hexOk at hx
  by_cases h0 : s.size % 2 = 0
  · have hb0 : (s.size % 2 != 0) = false := by rw [h0]; rfl
    rw [h0] at hx
    obtain ⟨i, hi, hf, hall⟩ := allT_first hx
    (refine AC_begin (fun _ _ => Tryz.call92 _ _) Tryz.func92 rfl Tryz.ntmps92 Tryz.results92 (fun hwf => ?_); simp only [List.length_cons, List.length_nil, Nat.reduceAdd, Nat.reduceSub, List.replicate, List.cons_append, List.nil_append])
    (refine sN (And.intro @hb0 (@yieldA_at 2 31)) ?_)
    refine WA_forP (fun k => [(2, J), (3, J), (4, sl h.length 0 k 1), (5, .int .i64 ((2 * k : Nat))), (6, J), (7, J), (8, J), (13, J), (14, J), (15, J), (16, J), (17, J), (18, J), (19, J), (20, J), (21, J), (22, J), (23, J), (24, J), (25, J), (26, J), (27, J), (28, J), (29, J), (30, J), (31, J), (32, J), (33, J), (34, J), (35, J), (36, J), (37, J), (38, J), (39, J), (40, J), (41, J), (42, J)]) (fun k => [(0, ⟨Bs k (unV s), true⟩)]) (i) ?_ ?_ ?_ <;> (try simp only [patT_cons, patT_nil, patL_cons, patL_nil, list_set_zero, list_set_succ, blk_set_zero, blk_set_succ])
    · rw [Nat.mul_zero]
      (exact sS0)
    · intro k hk
      obtain ⟨g0, g1⟩ := gdP_t (allT_get hall hk)
      have v0 := (hex_dig g0).2
      have v1 := (hex_dig g1).2
      (repeat (first | ((first | (refine And.intro ?_ ?_; focus exact PLA) | ((first | with_reducible apply callB_i | with_reducible apply callK_intro | with_reducible apply callQ_i); (focus (first | assumption | (with_reducible apply digS_ac <;> (first | assumption | rfl | (simp (disch := omega) only [go_sem]; first | done | rfl) | omega | decide | (simp; done))))); (try exact WP_au)) | refine WA_seq (WA_region ?_) | refine WA_region ?_ | refine WA_exit ?_); try simp (maxSteps := 1000000) (disch := first | omega | rfl | decide | (simp only [List.length_cons, List.length_nil, List.length_append, LV] <;> omega)) only [go_sem, Nat.reduceAdd, Int.reduceAdd, Int.reduceSub, Int.reduceMul, Bool.not_true, Bool.not_false, ch_is, digI_t g0, digI_t g1, Nat.not_lt_zero, decide_false, unV_is, sub1, Bs_snoc1, yieldA_at 2 31]) | (refine WA_seq (WA_draw (id := 7) mixedOk (by kernel_rfl) ?_); simp (maxSteps := 1000000) (disch := first | omega | rfl | decide | (simp only [List.length_cons, List.length_nil, List.length_append, LV] <;> omega)) only [go_sem, Nat.reduceAdd, Int.reduceAdd, Int.reduceSub, Int.reduceMul, Bool.not_true, Bool.not_false, ch_is, digI_t g0, digI_t g1, Nat.not_lt_zero, decide_false, unV_is, sub1, Bs_snoc1, yieldA_at 2 31]) | (refine WA_draw (id := 7) mixedOk (by kernel_rfl) ?_; simp (maxSteps := 1000000) (disch := first | omega | rfl | decide | (simp only [List.length_cons, List.length_nil, List.length_append, LV] <;> omega)) only [go_sem, Nat.reduceAdd, Int.reduceAdd, Int.reduceSub, Int.reduceMul, Bool.not_true, Bool.not_false, ch_is, digI_t g0, digI_t g1, Nat.not_lt_zero, decide_false, unV_is, sub1, Bs_snoc1, yieldA_at 2 31]) | refine WA_seq ?_ | refine WA_block ?_ | (refine WA_skip ?_; try simp only [go_sem]) | (refine WA_ret ?_; try simp only [go_sem]) | refine WA_ct rfl ?_ | refine WA_cf rfl ?_))
      rw [show 2 * (k + 1) = 2 * k + 2 by omega]
      (exact gC [2])
    · unfold gdP at hf
      have dneg : decide ((-1 : Int) < 0) = true := by decide
      cases g0 : digOk (ch s (2 * i))
      · (repeat (first | ((first | (refine And.intro ?_ ?_; focus exact PLA) | ((first | with_reducible apply callB_i | with_reducible apply callK_intro | with_reducible apply callQ_i); (focus (first | assumption | (with_reducible apply digS_ac <;> (first | assumption | rfl | (simp (disch := omega) only [go_sem]; first | done | rfl) | omega | decide | (simp; done))))); (try exact WP_au)) | refine WA_seq (WA_region ?_) | refine WA_region ?_ | refine WA_exit ?_); try simp (maxSteps := 1000000) (disch := first | omega | rfl | decide | (simp only [List.length_cons, List.length_nil, List.length_append, LV] <;> omega)) only [go_sem, Nat.reduceAdd, Int.reduceAdd, Int.reduceSub, Int.reduceMul, Bool.not_true, Bool.not_false, ch_is, digI_f g0, dneg, yieldA_at 2 31]) | (refine WA_seq (WA_draw (id := 7) mixedOk (by kernel_rfl) ?_); simp (maxSteps := 1000000) (disch := first | omega | rfl | decide | (simp only [List.length_cons, List.length_nil, List.length_append, LV] <;> omega)) only [go_sem, Nat.reduceAdd, Int.reduceAdd, Int.reduceSub, Int.reduceMul, Bool.not_true, Bool.not_false, ch_is, digI_f g0, dneg, yieldA_at 2 31]) | (refine WA_draw (id := 7) mixedOk (by kernel_rfl) ?_; simp (maxSteps := 1000000) (disch := first | omega | rfl | decide | (simp only [List.length_cons, List.length_nil, List.length_append, LV] <;> omega)) only [go_sem, Nat.reduceAdd, Int.reduceAdd, Int.reduceSub, Int.reduceMul, Bool.not_true, Bool.not_false, ch_is, digI_f g0, dneg, yieldA_at 2 31]) | refine WA_seq ?_ | refine WA_block ?_ | (refine WA_skip ?_; try simp only [go_sem]) | (refine WA_ret ?_; try simp only [go_sem]) | refine WA_ct rfl ?_ | refine WA_cf rfl ?_))
        (exact sR0)
      · rw [g0, Bool.true_and] at hf
        (repeat (first | ((first | (refine And.intro ?_ ?_; focus exact PLA) | ((first | with_reducible apply callB_i | with_reducible apply callK_intro | with_reducible apply callQ_i); (focus (first | assumption | (with_reducible apply digS_ac <;> (first | assumption | rfl | (simp (disch := omega) only [go_sem]; first | done | rfl) | omega | decide | (simp; done))))); (try exact WP_au)) | refine WA_seq (WA_region ?_) | refine WA_region ?_ | refine WA_exit ?_); try simp (maxSteps := 1000000) (disch := first | omega | rfl | decide | (simp only [List.length_cons, List.length_nil, List.length_append, LV] <;> omega)) only [go_sem, Nat.reduceAdd, Int.reduceAdd, Int.reduceSub, Int.reduceMul, Bool.not_true, Bool.not_false, ch_is, digI_t g0, digI_f hf, Nat.not_lt_zero, decide_false, dneg, yieldA_at 2 31]) | (refine WA_seq (WA_draw (id := 7) mixedOk (by kernel_rfl) ?_); simp (maxSteps := 1000000) (disch := first | omega | rfl | decide | (simp only [List.length_cons, List.length_nil, List.length_append, LV] <;> omega)) only [go_sem, Nat.reduceAdd, Int.reduceAdd, Int.reduceSub, Int.reduceMul, Bool.not_true, Bool.not_false, ch_is, digI_t g0, digI_f hf, Nat.not_lt_zero, decide_false, dneg, yieldA_at 2 31]) | (refine WA_draw (id := 7) mixedOk (by kernel_rfl) ?_; simp (maxSteps := 1000000) (disch := first | omega | rfl | decide | (simp only [List.length_cons, List.length_nil, List.length_append, LV] <;> omega)) only [go_sem, Nat.reduceAdd, Int.reduceAdd, Int.reduceSub, Int.reduceMul, Bool.not_true, Bool.not_false, ch_is, digI_t g0, digI_f hf, Nat.not_lt_zero, decide_false, dneg, yieldA_at 2 31]) | refine WA_seq ?_ | refine WA_block ?_ | (refine WA_skip ?_; try simp only [go_sem]) | (refine WA_ret ?_; try simp only [go_sem]) | refine WA_ct rfl ?_ | refine WA_cf rfl ?_))
        (exact sR0)
  · have hb0 : (s.size % 2 != 0) = true := by rw [bne_iff_ne]; exact h0
    (refine AC_begin (fun _ _ => Tryz.call92 _ _) Tryz.func92 rfl Tryz.ntmps92 Tryz.results92 (fun hwf => ?_); simp only [List.length_cons, List.length_nil, Nat.reduceAdd, Nat.reduceSub, List.replicate, List.cons_append, List.nil_append])
    (refine sN (And.intro @hb0 (@yieldA_at 2 31)) ?_)
    (exact sR0)

def parF (s : ByteArray) : Nat → UInt8 := if parOk s then unV s else zeroF
def parC (s : ByteArray) : Int := if parOk s then 0 else 6
theorem parI_ac {s : ByteArray} (hs : s.size ≤ 1048576) (h : List Blk) : AC Tryz.prog 51 [.string s] h (.tuple #[.agg (Bs 256 (parF s)).toArray, .int .i64 (parC s)]) h := by
  cases hx : hexOk s
  · have hp : parOk s = false := by unfold parOk; rw [hx]; rfl
    unfold parF parC
    rw [hp]
    (refine AC_begin (fun _ _ => Tryz.call51 _ _) Tryz.func51 rfl Tryz.ntmps51 Tryz.results51 (fun hwf => ?_); simp only [List.length_cons, List.length_nil, Nat.reduceAdd, Nat.reduceSub, List.replicate, List.cons_append, List.nil_append])
    (refine sW (@yieldA_at 2 13) (fromI_no hs hx) ?_)
    (exact sR @zeroF.eq_1)
  · by_cases h5 : s.size = 512
    · have hp : parOk s = true := by unfold parOk; rw [hx, h5]; rfl
      have h256 : s.size / 2 = 256 := by omega
      have ho := fromI_ok hs hx
      rw [h256] at ho
      unfold parF parC
      rw [hp]
      (refine AC_begin (fun _ _ => Tryz.call51 _ _) Tryz.func51 rfl Tryz.ntmps51 Tryz.results51 (fun hwf => ?_); simp only [List.length_cons, List.length_nil, Nat.reduceAdd, Nat.reduceSub, List.replicate, List.cons_append, List.nil_append])
      (refine sW (@yieldA_at 2 13) @ho ?_)
      (exact sR0)
    · have hp : parOk s = false := by
        unfold parOk; rw [hx, Bool.true_and]; exact beq_eq_false_iff_ne.2 h5
      have hev : s.size % 2 = 0 := by
        unfold hexOk at hx
        rw [Bool.and_eq_true, beq_iff_eq] at hx; exact hx.1
      have hne : (s.size / 2 != 256) = true := by rw [bne_iff_ne]; omega
      unfold parF parC
      rw [hp]
      (refine AC_begin (fun _ _ => Tryz.call51 _ _) Tryz.func51 rfl Tryz.ntmps51 Tryz.results51 (fun hwf => ?_); simp only [List.length_cons, List.length_nil, Nat.reduceAdd, Nat.reduceSub, List.replicate, List.cons_append, List.nil_append])
      (refine sW (And.intro @hne (@yieldA_at 2 13)) (fromI_ok hs hx) ?_)
      (exact sR @zeroF.eq_1)

end Go.Proofs.YtkdpjkpedklbpaaGreatDoor
/- Texts cut at a sign: the reference and the library. -/
namespace Go.Proofs.YtkdpjkpedklbpaaGreatDoor
set_option linter.unusedSimpArgs false
set_option linter.unusedVariables false
set_option maxRecDepth 20000
set_option maxHeartbeats 1000000
open Go.Abs

def Ss (L : List ByteArray) : List Value := L.map Value.string
@[go_sem] theorem Ss_length (L : List ByteArray) : (Ss L).length = L.length := by simp [Ss]
@[go_sem] theorem Ss_plain (L : List ByteArray) : (Ss L).all plainC = true := by
  unfold Ss; rw [List.all_map, List.all_eq_true]; intro x _; rfl
theorem Ss_snoc (L : List ByteArray) (x : ByteArray) : Ss L ++ [.string x] = Ss (L ++ [x]) := by unfold Ss; rw [List.map_append]; rfl
theorem spP_01 (s : ByteArray) (c : UInt8) : (spP s c 0).1 = [] := rfl
theorem spP_02 (s : ByteArray) (c : UInt8) : (spP s c 0).2 = 0 := rfl
theorem Ss_nil : Ss [] = [] := rfl
@[go_sem] theorem Ss_get {L : List ByteArray} {i : Nat} (h : i < L.length) : (Ss L)[i]? = some (.string (L.getD i ⟨#[]⟩)) := by simp [Ss, h, List.getD_eq_getElem?_getD]
theorem lit1S (z v : Value) : splice (repA [z] 1) (0 * 1) [v] = [v] := by rw [repA_one]; rfl
theorem len_snoc (L : List ByteArray) (x : ByteArray) : (L ++ [x]).length = L.length + 1 := by rw [List.length_append]; rfl
@[go_sem] theorem growR_Ss {h : List Blk} {b by' m : Nat} {L : List ByteArray} {news : List Value} (h2 : (L.length + m) * by' ≤ 140737488355328) : growR h b (some ⟨Ss L, true⟩) L.length 1 by' m news = some (sl h.length 0 (L.length + m) 1, h.set b dead ++ [⟨Ss L ++ news, true⟩]) := growR_some (by rw [Ss_length, Nat.mul_one]) h2
attribute [local irreducible] ch
theorem splitS0_ac {s : ByteArray} (c : UInt8) (hs : s.size ≤ 1048576) (h : List Blk) : AC Tryz.prog 91 [.string s, B c] h (sl (h.length + 2) 0 (spA s c).length 1) (h ++ [dead, ⟨[.string (s.extract (spP s c s.size).2 s.size)], true⟩, ⟨Ss (spA s c), true⟩]) := by
  (refine AC_begin (fun _ _ => Tryz.call91 _ _) Tryz.func91 rfl Tryz.ntmps91 Tryz.results91 (fun hwf => ?_); simp only [List.length_cons, List.length_nil, Nat.reduceAdd, Nat.reduceSub, List.replicate, List.cons_append, List.nil_append])
  (refine sN0 ?_)
  refine WA_forP (fun k => [(5, sl h.length 0 (spP s c k).1.length 1), (6, .int .i64 (((spP s c k).2 : Nat) : Int)), (7, .int .i64 k), (8, J), (9, J), (10, J), (11, J), (12, J), (13, J), (14, J), (15, J), (16, J), (17, J), (18, J), (19, J), (20, J), (21, J), (22, J), (23, J), (24, J), (25, J), (26, J), (27, J), (28, J)]) (fun k => [(0, ⟨Ss (spP s c k).1, true⟩)]) (s.size) ?_ ?_ ?_ <;> (try simp only [patT_cons, patT_nil, patL_cons, patL_nil, list_set_zero, list_set_succ, blk_set_zero, blk_set_succ])
  · (refine Drop_slots (by first | exact Nat.le_refl _ | simp) ?_; focus ((try simp only [JL_same, JL_J, JL_nil, Int.reduceAdd, Nat.sub_sub, Int.natCast_add, Int.natCast_one, Int.natCast_zero, Int.cast_ofNat_Int, Nat.add_zero, Bool.false_eq_true, if_false, if_true, spP_01, spP_02, Ss_nil, List.length_nil]); (try exact JL_refl _)))
  · intro k hk
    obtain ⟨h1, h2⟩ := spP_le s c k
    by_cases hc : ch s k = c
    · have hcb : (ch s k == c) = true := by rw [hc]; exact beq_self_eq_true c
      (refine sN (And.intro @ch_is (And.intro @hcb (And.intro @lit1S (And.intro @sub1 @Ss_snoc)))) ?_)
      rw [spP_t hc]
      simp only [len_snoc]
      (exact gC [2])
    · have hcb : (ch s k == c) = false := by rw [beq_eq_false_iff_ne]; exact hc
      (refine sN (And.intro @ch_is @hcb) ?_)
      rw [spP_f hc]
      (exact sS0)
  · obtain ⟨h1, h2⟩ := spP_le s c s.size
    (refine sN (And.intro @lit1S (And.intro @sub1 @Ss_snoc)) ?_)
    (exact sR (And.intro @spA.eq_1 @len_snoc))
theorem splitS_ac {s : ByteArray} (c : UInt8) (hs : s.size ≤ 1048576) (h : List Blk) : AC Tryz.prog 91 [.string s, B c] h (sl h.length 0 (spA s c).length 1) (h ++ [⟨Ss (spA s c), true⟩]) := by
  (refine AC_gc [2] (splitS0_ac c hs h) (by decide) ?_ ?_ ?_; (focus (repeat (first | exact trivial | (refine And.intro ⟨_, rfl, ?_⟩ ?_; (focus first | (refine Fit_plain ?_; simp only [go_sem, List.all_append, List.all_cons, List.all_nil, Bool.and_self]; done) | exact Fit_nil rfl | exact Fit_dead | (refine Fit_eq ?_ ?_; (focus simp only [go_sem, List.all_append, List.all_cons, List.all_nil, Bool.and_self]); (focus (first | rfl | (simp only [Int.natCast_add, Int.natCast_one, Int.natCast_zero, Int.cast_ofNat_Int, Nat.add_zero]; done) | (simp only [Int.natCast_add, Int.natCast_one, Int.natCast_zero, Int.cast_ofNat_Int, Nat.add_zero]; rfl))))))))); (focus first | (refine renV_sl ?_; first | (rw [rhoF_new0]; rfl) | (rw [rhoF_new]; rfl) | (rw [rhoF_old]; first | assumption | omega)) | (refine renV_pt ?_; first | (rw [rhoF_new0]; rfl) | (rw [rhoF_new]; rfl) | (rw [rhoF_old]; first | assumption | omega)) | (refine renV_two ?_ ?_; (focus first | (refine ren1_sl ?_; first | (rw [rhoF_new0]; rfl) | (rw [rhoF_new]; rfl) | (rw [rhoF_old]; first | assumption | omega)) | rfl); (focus rfl)) | rfl | (refine (renV_plain ?_).symm; first | rfl | (refine plain_agg ?_; simp only [go_sem, List.all_append, List.all_cons, List.all_nil, Bool.and_self]; done))); (focus first | (simp only [wfV, wf1, wfC, List.length_append, List.length_cons, List.length_nil]; omega) | (refine wfV_two ?_ ?_; (focus simp only [wf1, wfC, List.length_append, List.length_cons, List.length_nil]; omega); (focus trivial)) | (refine plainV_wf ?_; (focus first | rfl | (refine plain_agg ?_; simp only [go_sem, List.all_append, List.all_cons, List.all_nil, Bool.and_self]; done)); done)))

theorem splitI_ac {s : ByteArray} (hs : s.size ≤ 1048576) (h : List Blk) : AC Tryz.prog 49 [.string s, .string ⟨#[47]⟩] h (sl h.length 0 (spA s 47).length 1) (h ++ [⟨Ss (spA s 47), true⟩]) := by
  refine ⟨fun _ _ => Tryz.call49 _ _, fun E w args' hH hA => ?_⟩
  obtain ⟨hl, hg⟩ := hA
  obtain ⟨l⟩ := args'
  match l, hl, hg with
  | [u, v], _, hg =>
    have hu : u = .string s := hg 0 _ _ rfl rfl
    have hv : v = .string ⟨#[47]⟩ := hg 1 _ _ rfl rfl
    subst hu hv
    obtain ⟨m, hm⟩ := hH.door.maxLen
    refine Calls.mono (Tryz.strings_Split s ⟨#[47]⟩ m w (by omega) hm (by decide)) fun e w' ⟨he, hw⟩ => ?_
    subst hw
    rw [spA_len] at he
    rw [spA_lib]
    have hrow : Row E h.length (Ss (spA s 47)) ((spA s 47).map Value.string).toArray.toList := fun i x hx => ⟨x, hx, by
      have hp := List.all_eq_true.1 (Ss_plain (spA s 47)) x (List.mem_of_getElem? hx)
      exact CR.of_plain hp⟩
    have hr := hH.alloc (ty := 9) hrow
    refine ⟨_, _, he, ?_, hr.1, hr.2⟩
    refine ⟨rfl, by simp, _, _, rfl, Nat.le_refl _, .inr ⟨?_, ?_⟩⟩
    · simp [Emb.at, Emb.with]
    · simp [Emb.with]

end Go.Proofs.YtkdpjkpedklbpaaGreatDoor
/- What the library's functions on texts return, as the abstract machine sees it. -/
namespace Go.Proofs.YtkdpjkpedklbpaaGreatDoor
set_option linter.unusedSimpArgs false
set_option linter.unusedVariables false
set_option maxRecDepth 20000
set_option maxHeartbeats 1000000
open Go.Abs
/-- A call that returns a plain value and leaves what was there. -/
theorem AC_below {P : Program} {f : FuncId} {args : List Value} {h : List Blk} {v : Value} (hcall : CallOk P f) (hv : plainV v = true)
    (hc : ∀ (E : Emb) (w : World) (args' : Array Value), HR E h w → P2 (VR E h.length) args args'.toList → Calls P f args' w fun e w' => e = .returned v ∧ RowKit.Below w.heap.size w w') : AC P f args h v h :=
  ⟨hcall, fun E w args' hr ha => (hc E w args' hr ha).mono fun e w' ⟨he, hb⟩ =>
    ⟨E, v, he, VR.of_plain hv, hr.same (below_same hb) hb.size,
      ⟨Nat.le_refl _, fun _ _ => rfl, fun _ _ => ⟨rfl, rfl⟩, hb.size, hb.os, hb.tape, hb.output, fun i hi _ => below_same hb i hi, fun b k hk hrw => .inr ⟨b, k, hk, hrw, rfl⟩⟩⟩⟩

@[go_sem] theorem pres_convert {hS : List Blk} {d} {t : List Value} {T U : TypeId} {x : Operand} {ty pos af g} : presOk t hS ⟨d, .convert T U x, ty, pos, af, g⟩ = True := rfl
@[go_sem] theorem pres_load {hS : List Blk} {d} {t : List Value} {T : TypeId} {x : Operand} {ty pos af g} : presOk t hS ⟨d, .load T x, ty, pos, af, g⟩ = True := rfl
theorem Bl_one (x : UInt8) : ([B x] : List Value) = Bl [x] := rfl
theorem Bl_spl (x y : UInt8) : splice (Bl [x]) 0 (Bl [y]) = Bl [y] := rfl
theorem join_ac {h : List Blk} {b : Nat} {L : List ByteArray} {r : Bool} (hb : h[b]? = some ⟨Ss L, r⟩) (hL : 0 < L.length) (hN : L.length ≤ 1000) (sep : ByteArray) (hlen : (joinB L sep).size ≤ 140737488355328) : AC Tryz.prog 56 [sl b 0 L.length 1, .string sep] h (.string (joinB L sep)) h := by
  refine AC_below (fun _ _ => Tryz.call56 _ _) rfl fun E w args' hH hA => ?_
  obtain ⟨hl, hg⟩ := hA
  obtain ⟨l⟩ := args'
  match l, hl, hg with
  | [u, v], _, hg =>
    have h0 := hg 0 _ _ rfl rfl
    have hv : v = .string sep := hg 1 _ _ rfl rfl
    obtain ⟨_, hlt, a', cap, rfl, hle, hc⟩ := (show CR E h.length (sl b 0 L.length 1) u from h0)
    subst hv
    rcases hc with hc | ⟨rfl, _⟩
    · omega
    · refine Calls.mono (Tryz.strings_Join (E.loc b) (E.base b + 0) cap L sep w (fun j x hx => ?_) (hH.lt b _ hb) (by omega) hle hlen) fun e w' hw => hw
      have hx' : (Ss L)[j]? = some (.string x) := by unfold Ss; rw [List.getElem?_map, hx]; rfl
      obtain ⟨y, hy, hr⟩ := hH.cell b _ j _ hb hx'
      have e : y = .string x := hr
      rw [← e, Nat.add_zero]; exact hy

theorem replaceAll_ac {s : ByteArray} (hs : s.size ≤ 1000000) (h : List Blk) : AC Tryz.prog 54 [.string s, .string ⟨#[47]⟩, .string ⟨#[]⟩] h (.string ⟨(Lib.replaceAll s.data.toList [47] []).toArray⟩) h := by
  refine AC_below (fun _ _ => Tryz.call54 _ _) rfl fun E w args' hH hA => ?_
  obtain ⟨hl, hg⟩ := hA
  obtain ⟨l⟩ := args'
  match l, hl, hg with
  | [u, v, x], _, hg =>
    have hu : u = .string s := hg 0 _ _ rfl rfl
    have hv : v = .string ⟨#[47]⟩ := hg 1 _ _ rfl rfl
    have hx : x = .string ⟨#[]⟩ := hg 2 _ _ rfl rfl
    subst hu hv hx
    obtain ⟨m, hm⟩ := hH.door.maxLen
    have hz : (⟨#[]⟩ : ByteArray).size = 0 := rfl
    exact Tryz.strings_ReplaceAll s ⟨#[47]⟩ ⟨#[]⟩ m w (by omega) hm (by decide) (by rw [hz, Nat.mul_zero]; omega)

theorem formatInt_ac {n : Int} (h0 : -9223372036854775808 ≤ n) (h1 : n ≤ 9223372036854775807) (h : List Blk) : AC Tryz.prog 98 [.int .i64 n, .int .i64 10] h (.string (dT n)) h := by
  refine AC_below (fun _ _ => Tryz.call98 _ _) rfl fun E w args' hH hA => ?_
  obtain ⟨hl, hg⟩ := hA
  obtain ⟨l⟩ := args'
  match l, hl, hg with
  | [u, v], _, hg =>
    have hu : u = .int .i64 n := hg 0 _ _ rfl rfl
    have hv : v = .int .i64 10 := hg 1 _ _ rfl rfl
    subst hu hv
    refine Calls.mono (Tryz.strconv_FormatInt_10 n h0 h1 w hH.door.pow10) fun e w' ⟨he, k, os, hw⟩ => ⟨he, ?_⟩
    subst hw
    exact Lib.below_grow _ w (Nat.le_refl _) k os

theorem decI_ac {n : Int} (h0 : -9223372036854775808 ≤ n) (h1 : n ≤ 9223372036854775807) (h : List Blk) : AC Tryz.prog 57 [.int .i64 n] h (.string (dT n)) h := by
  (refine AC_begin (fun _ _ => Tryz.call57 _ _) Tryz.func57 rfl Tryz.ntmps57 Tryz.results57 (fun hwf => ?_); simp only [List.length_cons, List.length_nil, Nat.reduceAdd, Nat.reduceSub, List.replicate, List.cons_append, List.nil_append])
  (refine sW0 (formatInt_ac h0 h1) ?_)
  (exact sR0)

theorem decS1_ac {n : Nat} (hn : n < 10) (h : List Blk) : AC Tryz.prog 82 [.int .i64 n] h (.string (dT n)) h := by
  rw [dT_small hn]
  have hd : decide (((n : Nat) : Int) < 10) = true := decide_eq_true (by omega)
  have hw : IntKind.i64.wrap ((48 : Int) + (n : Int)) = ((48 + n : Nat) : Int) := by rw [show (48 : Int) + (n : Int) = ((48 + n : Nat) : Int) by omega]; exact wrap_N (by omega)
  (refine AC_begin (fun _ _ => Tryz.call82 _ _) Tryz.func82 rfl Tryz.ntmps82 Tryz.results82 (fun hwf => ?_); simp only [List.length_cons, List.length_nil, Nat.reduceAdd, Nat.reduceSub, List.replicate, List.cons_append, List.nil_append])
  (refine sN (And.intro @hd (And.intro @hw (And.intro @lit1S (And.intro @Bl_spl @Bl_one)))) ?_)
  (exact sR @UInt8.ofNat_toNat)
theorem decS2_ac {n : Nat} (h10 : 10 ≤ n) (hn : n < 100) (h : List Blk) (hr : ∀ H : List Blk, AC Tryz.prog 82 [.int .i64 ((n / 10 : Nat) : Int)] H (.string (dT ((n / 10 : Nat) : Int))) H) (hs : (dT ((n / 10 : Nat) : Int)).size ≤ 1000) : AC Tryz.prog 82 [.int .i64 n] h (.string (dT n)) h := by
  rw [dT_step h10]
  have h1b : (⟨#[UInt8.ofNat (48 + n % 10)]⟩ : ByteArray).size = 1 := rfl
  have hd : decide (((n : Nat) : Int) < 10) = false := decide_eq_false (by omega)
  have hq : Int.tdiv ((n : Nat) : Int) 10 = ((n / 10 : Nat) : Int) := by rw [Int.tdiv_eq_ediv_of_nonneg (by omega)]; omega
  have hq2 : IntKind.i64.wrap ((n / 10 : Nat) : Int) = ((n / 10 : Nat) : Int) := wrap_N (by omega)
  have hm : Int.tmod ((n : Nat) : Int) 10 = ((n % 10 : Nat) : Int) := by rw [Int.tmod_eq_emod_of_nonneg (by omega)]; omega
  have hw : IntKind.i64.wrap ((48 : Int) + ((n % 10 : Nat) : Int)) = ((48 + n % 10 : Nat) : Int) := by rw [show (48 : Int) + ((n % 10 : Nat) : Int) = ((48 + n % 10 : Nat) : Int) by omega]; exact wrap_N (by omega)
  (refine AC_begin (fun _ _ => Tryz.call82 _ _) Tryz.func82 rfl Tryz.ntmps82 Tryz.results82 (fun hwf => ?_); simp only [List.length_cons, List.length_nil, Nat.reduceAdd, Nat.reduceSub, List.replicate, List.cons_append, List.nil_append])
  (repeat (first | ((first | (refine And.intro ?_ ?_; focus exact PLA) | ((first | with_reducible apply callB_i | with_reducible apply callK_intro | with_reducible apply callQ_i); (focus (first | assumption | (with_reducible apply hr <;> (first | assumption | rfl | (simp (disch := omega) only [go_sem]; first | done | rfl) | omega | decide | (simp; done))))); (try exact WP_au)) | refine WA_seq (WA_region ?_) | refine WA_region ?_ | refine WA_exit ?_); try simp (maxSteps := 1000000) (disch := first | omega | rfl | decide | (simp only [List.length_cons, List.length_nil, List.length_append, LV] <;> omega)) only [go_sem, Nat.reduceAdd, Int.reduceAdd, Int.reduceSub, Int.reduceMul, Bool.not_true, Bool.not_false, hd, hq, hq2, hm, hw, lit1S, Bl_spl, Bl_one, UInt8.ofNat_toNat]) | (refine (WA_rb (id := 3) [] (SubM.refl _) mixedOk ?_); simp only [List.size_toArray, List.length_cons, List.length_nil]; (repeat (first | ((first | (refine And.intro ?_ ?_; focus exact PLA) | ((first | with_reducible apply callB_i | with_reducible apply callK_intro | with_reducible apply callQ_i); (focus (first | assumption | (with_reducible apply hr <;> (first | assumption | rfl | (simp (disch := omega) only [go_sem]; first | done | rfl) | omega | decide | (simp; done))))); (try exact WP_au)) | refine RB_take false [0, 1, 3, 4, 5, 6] 5 (by rfl) (by kernel_rfl) (by decide) (by decide +kernel) ?_ | refine RB_take true [2] 4 (by rfl) (by kernel_rfl) (by decide) (by decide +kernel) ?_ | refine RB_keep 7 _ (by rfl) (by decide +kernel) (by first | (simp (disch := first | omega | decide) only [go_sem, List.getElem?_nil]; done) | fail) ?_ | refine RB_keep 8 _ (by rfl) (by decide +kernel) (by first | (simp (disch := first | omega | decide) only [go_sem, List.getElem?_nil]; done) | fail) ?_ | refine RB_take false [9, 10] 0 (by rfl) (by kernel_rfl) (by decide) (by decide +kernel) ?_ | refine RB_done (by decide +kernel) ?_); try simp (maxSteps := 1000000) (disch := first | omega | rfl | decide | (simp only [List.length_cons, List.length_nil, List.length_append, LV] <;> omega)) only [go_sem, Nat.reduceAdd, Int.reduceAdd, Int.reduceSub, Int.reduceMul, Bool.not_true, Bool.not_false, hd, hq, hq2, hm, hw, lit1S, Bl_spl, Bl_one, UInt8.ofNat_toNat])))) | refine WA_seq ?_ | refine WA_block ?_ | (refine WA_skip ?_; try simp only [go_sem]) | (refine WA_ret ?_; try simp only [go_sem]) | refine WA_ct rfl ?_ | refine WA_cf rfl ?_))
  (exact sR @UInt8.ofNat_toNat)
theorem decS3_ac {n : Nat} (h10 : 10 ≤ n) (hn : n < 1000) (h : List Blk) (hr : ∀ H : List Blk, AC Tryz.prog 82 [.int .i64 ((n / 10 : Nat) : Int)] H (.string (dT ((n / 10 : Nat) : Int))) H) (hs : (dT ((n / 10 : Nat) : Int)).size ≤ 1000) : AC Tryz.prog 82 [.int .i64 n] h (.string (dT n)) h := by
  rw [dT_step h10]
  have h1b : (⟨#[UInt8.ofNat (48 + n % 10)]⟩ : ByteArray).size = 1 := rfl
  have hd : decide (((n : Nat) : Int) < 10) = false := decide_eq_false (by omega)
  have hq : Int.tdiv ((n : Nat) : Int) 10 = ((n / 10 : Nat) : Int) := by rw [Int.tdiv_eq_ediv_of_nonneg (by omega)]; omega
  have hq2 : IntKind.i64.wrap ((n / 10 : Nat) : Int) = ((n / 10 : Nat) : Int) := wrap_N (by omega)
  have hm : Int.tmod ((n : Nat) : Int) 10 = ((n % 10 : Nat) : Int) := by rw [Int.tmod_eq_emod_of_nonneg (by omega)]; omega
  have hw : IntKind.i64.wrap ((48 : Int) + ((n % 10 : Nat) : Int)) = ((48 + n % 10 : Nat) : Int) := by rw [show (48 : Int) + ((n % 10 : Nat) : Int) = ((48 + n % 10 : Nat) : Int) by omega]; exact wrap_N (by omega)
  (refine AC_begin (fun _ _ => Tryz.call82 _ _) Tryz.func82 rfl Tryz.ntmps82 Tryz.results82 (fun hwf => ?_); simp only [List.length_cons, List.length_nil, Nat.reduceAdd, Nat.reduceSub, List.replicate, List.cons_append, List.nil_append])
  (repeat (first | ((first | (refine And.intro ?_ ?_; focus exact PLA) | ((first | with_reducible apply callB_i | with_reducible apply callK_intro | with_reducible apply callQ_i); (focus (first | assumption | (with_reducible apply hr <;> (first | assumption | rfl | (simp (disch := omega) only [go_sem]; first | done | rfl) | omega | decide | (simp; done))))); (try exact WP_au)) | refine WA_seq (WA_region ?_) | refine WA_region ?_ | refine WA_exit ?_); try simp (maxSteps := 1000000) (disch := first | omega | rfl | decide | (simp only [List.length_cons, List.length_nil, List.length_append, LV] <;> omega)) only [go_sem, Nat.reduceAdd, Int.reduceAdd, Int.reduceSub, Int.reduceMul, Bool.not_true, Bool.not_false, hd, hq, hq2, hm, hw, lit1S, Bl_spl, Bl_one, UInt8.ofNat_toNat]) | (refine (WA_rb (id := 3) [] (SubM.refl _) mixedOk ?_); simp only [List.size_toArray, List.length_cons, List.length_nil]; (repeat (first | ((first | (refine And.intro ?_ ?_; focus exact PLA) | ((first | with_reducible apply callB_i | with_reducible apply callK_intro | with_reducible apply callQ_i); (focus (first | assumption | (with_reducible apply hr <;> (first | assumption | rfl | (simp (disch := omega) only [go_sem]; first | done | rfl) | omega | decide | (simp; done))))); (try exact WP_au)) | refine RB_take false [0, 1, 3, 4, 5, 6] 5 (by rfl) (by kernel_rfl) (by decide) (by decide +kernel) ?_ | refine RB_take true [2] 4 (by rfl) (by kernel_rfl) (by decide) (by decide +kernel) ?_ | refine RB_keep 7 _ (by rfl) (by decide +kernel) (by first | (simp (disch := first | omega | decide) only [go_sem, List.getElem?_nil]; done) | fail) ?_ | refine RB_keep 8 _ (by rfl) (by decide +kernel) (by first | (simp (disch := first | omega | decide) only [go_sem, List.getElem?_nil]; done) | fail) ?_ | refine RB_take false [9, 10] 0 (by rfl) (by kernel_rfl) (by decide) (by decide +kernel) ?_ | refine RB_done (by decide +kernel) ?_); try simp (maxSteps := 1000000) (disch := first | omega | rfl | decide | (simp only [List.length_cons, List.length_nil, List.length_append, LV] <;> omega)) only [go_sem, Nat.reduceAdd, Int.reduceAdd, Int.reduceSub, Int.reduceMul, Bool.not_true, Bool.not_false, hd, hq, hq2, hm, hw, lit1S, Bl_spl, Bl_one, UInt8.ofNat_toNat])))) | refine WA_seq ?_ | refine WA_block ?_ | (refine WA_skip ?_; try simp only [go_sem]) | (refine WA_ret ?_; try simp only [go_sem]) | refine WA_ct rfl ?_ | refine WA_cf rfl ?_))
  (exact sR @UInt8.ofNat_toNat)

end Go.Proofs.YtkdpjkpedklbpaaGreatDoor
/- Hex texts of parts of blocks; texts of matrices. -/
namespace Go.Proofs.YtkdpjkpedklbpaaGreatDoor
set_option linter.unusedSimpArgs false
set_option linter.unusedVariables false
set_option maxRecDepth 20000
set_option maxHeartbeats 1000000
open Go.Abs

theorem hexI_at {h : List Blk} {b o n : Nat} {f : Nat → UInt8} {cs : List Value} {r : Bool} (hb : h[b]? = some ⟨cs, r⟩) (hc : ∀ i, i < n → cs[o + i]? = some (B (f i))) (hn : n ≤ 1000000) : AC Tryz.prog 59 [sl b o n 1] h (.string (hxT f n)) h := by
  have hbl := blt hb
  (refine AC_begin (fun _ _ => Tryz.call59 _ _) Tryz.func59 rfl Tryz.ntmps59 Tryz.results59 (fun hwf => ?_); simp only [List.length_cons, List.length_nil, Nat.reduceAdd, Nat.reduceSub, List.replicate, List.cons_append, List.nil_append])
  (refine sN0 ?_)
  refine WA_forP (fun k => [(3, sl h.length 0 (2 * k) 1), (5, J), (6, J), (9, .int .i64 k), (10, J), (11, J), (12, J), (13, J), (14, J), (15, J), (16, J), (17, J), (18, J), (19, J), (20, J), (21, J), (22, J)]) (fun k => [(0, ⟨Bl (hx f k), true⟩)]) (n) ?_ ?_ ?_ <;> (try simp only [patT_cons, patT_nil, patL_cons, patL_nil, list_set_zero, list_set_succ, blk_set_zero, blk_set_succ])
  · (refine Drop_slots (by first | exact Nat.le_refl _ | simp) ?_; focus ((try simp only [JL_same, JL_J, JL_nil, Int.reduceAdd, Nat.sub_sub, Int.natCast_add, Int.natCast_one, Int.natCast_zero, Int.cast_ofNat_Int, Nat.add_zero, Bool.false_eq_true, if_false, if_true, hx]); (try exact JL_refl _)))
  · intro j hk
    have hx1 := tab16 (P := Tryz.prog) (T := 9) (by kernel_rfl) (UInt8.ofNat ((f j).toNat >>> 4)) (by rw [shr16]; have := u8_lt (f j); omega)
    have hx2 := tab16 (P := Tryz.prog) (T := 9) (by kernel_rfl) (f j &&& 15) (by rw [and15]; omega)
    have hsh : abin Tryz.prog .shr 5 (B (f j)) (.int .u64 4) = some (B (UInt8.ofNat ((f j).toNat >>> 4))) := abin_shr_B (f j) .u64 4
    rw [shr16] at hx1
    rw [and15] at hx2
    have hl := hx_len f j
    (repeat (first | ((first | (refine And.intro ?_ ?_; focus exact PLA) | refine WA_seq (WA_region ?_) | refine WA_region ?_ | refine WA_exit ?_); try simp (maxSteps := 1000000) (disch := first | omega | rfl | decide | (simp only [List.length_cons, List.length_nil, List.length_append, LV] <;> omega)) only [go_sem, Nat.reduceAdd, Int.reduceAdd, Int.reduceSub, Int.reduceMul, Bool.not_true, Bool.not_false, look_old hb, hc j hk, hsh, hx1, hx2, hl, sub2, Bl_hx]) | (refine (WA_rb (id := 5) [7, 8] (SubM.refl _) mixedOk ?_); simp only [List.size_toArray, List.length_cons, List.length_nil]; (repeat (first | ((first | (refine And.intro ?_ ?_; focus exact PLA) | refine RB_take false [0, 1, 2, 3, 4, 5, 6] 3 (by rfl) (by kernel_rfl) (by decide) (by decide +kernel) ?_ | refine RB_exec 7 _ (by rfl) (by decide +kernel) (by decide +kernel) ?_ | refine RB_exec 8 _ (by rfl) (by decide +kernel) (by decide +kernel) ?_ | refine RB_take false [9] 0 (by rfl) (by kernel_rfl) (by decide) (by decide +kernel) ?_ | refine RB_done (by decide +kernel) ?_); try simp (maxSteps := 1000000) (disch := first | omega | rfl | decide | (simp only [List.length_cons, List.length_nil, List.length_append, LV] <;> omega)) only [go_sem, Nat.reduceAdd, Int.reduceAdd, Int.reduceSub, Int.reduceMul, Bool.not_true, Bool.not_false, look_old hb, hc j hk, hsh, hx1, hx2, hl, sub2, Bl_hx])))) | refine WA_seq ?_ | refine WA_block ?_ | (refine WA_skip ?_; try simp only [go_sem]) | (refine WA_ret ?_; try simp only [go_sem]) | refine WA_ct rfl ?_ | refine WA_cf rfl ?_))
    (exact gC [2])
  · have hln := hx_len f n
    (refine sN0 ?_)
    (exact sR @hxT.eq_1)

theorem hexS_at {h : List Blk} {b o n : Nat} {f : Nat → UInt8} {cs : List Value} {r : Bool} (hb : h[b]? = some ⟨cs, r⟩) (hc : ∀ i, i < n → cs[o + i]? = some (B (f i))) (hn : n ≤ 1000000) : AC Tryz.prog 83 [sl b o n 1] h (.string (hxT f n)) h := by
  have hbl := blt hb
  (refine AC_begin (fun _ _ => Tryz.call83 _ _) Tryz.func83 rfl Tryz.ntmps83 Tryz.results83 (fun hwf => ?_); simp only [List.length_cons, List.length_nil, Nat.reduceAdd, Nat.reduceSub, List.replicate, List.cons_append, List.nil_append])
  (refine sN0 ?_)
  refine WA_forP (fun k => [(4, sl h.length 0 (2 * k) 1), (5, .int .i64 k), (6, J), (7, J), (8, J), (9, J), (10, J), (11, J), (12, J), (13, J), (14, J), (15, J), (16, J), (17, J), (18, J), (19, J), (20, J), (21, J), (22, J), (23, J), (24, J), (25, J), (26, J), (27, J), (28, J), (29, J)]) (fun k => [(0, ⟨Bl (hx f k), true⟩)]) (n) ?_ ?_ ?_ <;> (try simp only [patT_cons, patT_nil, patL_cons, patL_nil, list_set_zero, list_set_succ, blk_set_zero, blk_set_succ])
  · (refine Drop_slots (by first | exact Nat.le_refl _ | simp) ?_; focus ((try simp only [JL_same, JL_J, JL_nil, Int.reduceAdd, Nat.sub_sub, Int.natCast_add, Int.natCast_one, Int.natCast_zero, Int.cast_ofNat_Int, Nat.add_zero, Bool.false_eq_true, if_false, if_true, hx]); (try exact JL_refl _)))
  · intro j hk
    have hx1 := tab16 (P := Tryz.prog) (T := 9) (by kernel_rfl) (f j / 16) (by rw [hi16]; have := u8_lt (f j); omega)
    have hx2 := tab16 (P := Tryz.prog) (T := 9) (by kernel_rfl) (f j % 16) (by rw [lo16]; omega)
    rw [hi16] at hx1
    rw [lo16] at hx2
    have hl := hx_len f j
    (repeat (first | ((first | (refine And.intro ?_ ?_; focus exact PLA) | refine WA_seq (WA_region ?_) | refine WA_region ?_ | refine WA_exit ?_); try simp (maxSteps := 1000000) (disch := first | omega | rfl | decide | (simp only [List.length_cons, List.length_nil, List.length_append, LV] <;> omega)) only [go_sem, Nat.reduceAdd, Int.reduceAdd, Int.reduceSub, Int.reduceMul, Bool.not_true, Bool.not_false, look_old hb, hc j hk, hx1, hx2, hl, sub2, Bl_hx]) | (refine (WA_rb (id := 5) [15, 16] (SubM.refl _) mixedOk ?_); simp only [List.size_toArray, List.length_cons, List.length_nil]; (repeat (first | ((first | (refine And.intro ?_ ?_; focus exact PLA) | refine RB_take false [0, 1, 2, 3, 4, 8, 9, 10, 11] 9 (by rfl) (by kernel_rfl) (by decide) (by decide +kernel) ?_ | refine RB_take true [5, 12] 7 (by rfl) (by kernel_rfl) (by decide) (by decide +kernel) ?_ | refine RB_take false [6, 7, 13, 14] 3 (by rfl) (by kernel_rfl) (by decide) (by decide +kernel) ?_ | refine RB_exec 15 _ (by rfl) (by decide +kernel) (by decide +kernel) ?_ | refine RB_exec 16 _ (by rfl) (by decide +kernel) (by decide +kernel) ?_ | refine RB_take false [17] 0 (by rfl) (by kernel_rfl) (by decide) (by decide +kernel) ?_ | refine RB_done (by decide +kernel) ?_); try simp (maxSteps := 1000000) (disch := first | omega | rfl | decide | (simp only [List.length_cons, List.length_nil, List.length_append, LV] <;> omega)) only [go_sem, Nat.reduceAdd, Int.reduceAdd, Int.reduceSub, Int.reduceMul, Bool.not_true, Bool.not_false, look_old hb, hc j hk, hx1, hx2, hl, sub2, Bl_hx])))) | refine WA_seq ?_ | refine WA_block ?_ | (refine WA_skip ?_; try simp only [go_sem]) | (refine WA_ret ?_; try simp only [go_sem]) | refine WA_ct rfl ?_ | refine WA_cf rfl ?_))
    (exact gC [2])
  · have hln := hx_len f n
    (refine sN0 ?_)
    (exact sR @hxT.eq_1)

theorem Bs_rows (a : Nat → UInt8) (k : Nat) : Bs (k * 4) a ++ Bs 4 (fun t => a (k * 4 + t)) = Bs ((k + 1) * 4) a := by
  apply List.ext_getElem?
  intro i
  by_cases h : i < k * 4
  · rw [List.getElem?_append_left (by rw [Bs_length]; exact h), Bs_get h, Bs_get (by omega)]
  · rw [List.getElem?_append_right (by rw [Bs_length]; omega), Bs_length]
    by_cases h2 : i < (k + 1) * 4
    · rw [Bs_get (show i - k * 4 < 4 by omega), Bs_get h2, show k * 4 + (i - k * 4) = i by omega]
    · rw [List.getElem?_eq_none (by rw [Bs_length]; omega), List.getElem?_eq_none (by rw [Bs_length]; omega)]
theorem rows0_ac (a : Nat → UInt8) (h : List Blk) : AC Tryz.prog 84 [.agg (Bs 16 a).toArray] h (sl (h.length + 1) 0 16 1) (h ++ [⟨Bs 16 a, true⟩, ⟨Bs 16 a, true⟩]) := by
  (refine AC_begin (fun _ _ => Tryz.call84 _ _) Tryz.func84 rfl Tryz.ntmps84 Tryz.results84 (fun hwf => ?_); simp only [List.length_cons, List.length_nil, Nat.reduceAdd, Nat.reduceSub, List.replicate, List.cons_append, List.nil_append])
  (refine sN0 ?_)
  refine WA_forP (fun k => [(3, sl (h.length + 1) 0 (k * 4) 1), (4, .int .i64 k), (5, J), (6, J), (7, J), (8, J), (9, J), (10, J), (11, J), (12, J), (13, J), (14, J)]) (fun k => [(1, ⟨Bs (k * 4) a, true⟩)]) (4) ?_ ?_ ?_ <;> (try simp only [patT_cons, patT_nil, patL_cons, patL_nil, list_set_zero, list_set_succ, blk_set_zero, blk_set_succ])
  · rw [Nat.zero_mul]
    (exact sS0)
  · intro k hk
    (repeat (first | ((first | (refine And.intro ?_ ?_; focus exact PLA) | refine WA_seq (WA_region ?_) | refine WA_region ?_ | refine WA_exit ?_); try simp (maxSteps := 1000000) (disch := first | omega | rfl | decide | (simp only [List.length_cons, List.length_nil, List.length_append, LV] <;> omega)) only [go_sem, Nat.reduceAdd, Int.reduceAdd, Int.reduceSub, Int.reduceMul, Bool.not_true, Bool.not_false, Bs_sub (show k * 4 + 4 ≤ 16 by omega), Bs_rows]) | refine WA_seq ?_ | refine WA_block ?_ | (refine WA_skip ?_; try simp only [go_sem]) | (refine WA_ret ?_; try simp only [go_sem]) | refine WA_ct rfl ?_ | refine WA_cf rfl ?_))
    rw [show k * 4 + 4 = (k + 1) * 4 by omega]
    (exact gC [0, 2])
  · (refine sN0 ?_)
    (exact sR0)
theorem rows_ac (a : Nat → UInt8) (h : List Blk) : AC Tryz.prog 84 [.agg (Bs 16 a).toArray] h (sl h.length 0 16 1) (h ++ [⟨Bs 16 a, true⟩]) := by
  (refine AC_gc [1] (rows0_ac a h) (by decide) ?_ ?_ ?_; (focus (repeat (first | exact trivial | (refine And.intro ⟨_, rfl, ?_⟩ ?_; (focus first | (refine Fit_plain ?_; simp only [go_sem, List.all_append, List.all_cons, List.all_nil, Bool.and_self]; done) | exact Fit_nil rfl | exact Fit_dead | (refine Fit_eq ?_ ?_; (focus simp only [go_sem, List.all_append, List.all_cons, List.all_nil, Bool.and_self]); (focus (first | rfl | (simp only [Int.natCast_add, Int.natCast_one, Int.natCast_zero, Int.cast_ofNat_Int, Nat.add_zero]; done) | (simp only [Int.natCast_add, Int.natCast_one, Int.natCast_zero, Int.cast_ofNat_Int, Nat.add_zero]; rfl))))))))); (focus first | (refine renV_sl ?_; first | (rw [rhoF_new0]; rfl) | (rw [rhoF_new]; rfl) | (rw [rhoF_old]; first | assumption | omega)) | (refine renV_pt ?_; first | (rw [rhoF_new0]; rfl) | (rw [rhoF_new]; rfl) | (rw [rhoF_old]; first | assumption | omega)) | (refine renV_two ?_ ?_; (focus first | (refine ren1_sl ?_; first | (rw [rhoF_new0]; rfl) | (rw [rhoF_new]; rfl) | (rw [rhoF_old]; first | assumption | omega)) | rfl); (focus rfl)) | rfl | (refine (renV_plain ?_).symm; first | rfl | (refine plain_agg ?_; simp only [go_sem, List.all_append, List.all_cons, List.all_nil, Bool.and_self]; done))); (focus first | (simp only [wfV, wf1, wfC, List.length_append, List.length_cons, List.length_nil]; omega) | (refine wfV_two ?_ ?_; (focus simp only [wf1, wfC, List.length_append, List.length_cons, List.length_nil]; omega); (focus trivial)) | (refine plainV_wf ?_; (focus first | rfl | (refine plain_agg ?_; simp only [go_sem, List.all_append, List.all_cons, List.all_nil, Bool.and_self]; done)); done)))

theorem mtT_ac (a : Nat → UInt8) (h : List Blk) : AC Tryz.prog 55 [.agg (Bs 16 a).toArray] h (.string (mtT a)) h := by
  have hsz : (joinB (mtL a 4) ⟨#[47]⟩).size ≤ 140737488355328 := by
    have := mtT_size a
    unfold mtT at this
    rw [this]; omega
  have hlen : (mtL a 4).length = 4 := mtL_len a 4
  (refine AC_begin (fun _ _ => Tryz.call55 _ _) Tryz.func55 rfl Tryz.ntmps55 Tryz.results55 (fun hwf => ?_); simp only [List.length_cons, List.length_nil, Nat.reduceAdd, Nat.reduceSub, List.replicate, List.cons_append, List.nil_append])
  (refine sN0 ?_)
  refine WA_forP (fun k => [(3, sl (h.length + 1) 0 k 1), (5, J), (6, J), (8, .int .i64 k), (9, J), (10, J), (11, J), (12, J), (13, J), (14, J), (15, J), (16, J)]) (fun k => [(1, ⟨Ss (mtL a k), true⟩)]) (4) ?_ ?_ ?_ <;> (try simp only [patT_cons, patT_nil, patL_cons, patL_nil, list_set_zero, list_set_succ, blk_set_zero, blk_set_succ])
  · rw [mtL_zero, Ss_nil]
    (exact sS0)
  · intro k hk
    have hl := mtL_len a k
    have hgr : ∀ (H : List Blk) (b : Nat) (news : List Value), growR H b (some ⟨Ss (mtL a k), true⟩) k 1 16 1 news = some (sl H.length 0 (k + 1) 1, H.set b dead ++ [⟨Ss (mtL a k) ++ news, true⟩]) := fun H b news => by
      have := growR_Ss (h := H) (b := b) (by' := 16) (m := 1) (L := mtL a k) (news := news) (by rw [hl]; omega)
      rw [hl] at this; exact this
    (refine sY (And.intro @hgr (And.intro @lit1S (And.intro @sub1 (And.intro @Ss_snoc @mtL_snoc)))) @hexI_ac ?_)
    (exact gC [0, 4])
  · have hj : ∀ H : List Blk, H[h.length + 1]? = some ⟨Ss (mtL a 4), true⟩ → AC Tryz.prog 56 [sl (h.length + 1) 0 4 1, .string ⟨#[47]⟩] H (.string (mtT a)) H := fun H hb => by
      have := join_ac hb (by omega) (by omega) ⟨#[47]⟩ hsz
      rw [hlen] at this; exact this
    (refine sW0 @hj ?_)
    (exact sR0)

end Go.Proofs.YtkdpjkpedklbpaaGreatDoor
/- IsCipher. -/
namespace Go.Proofs.YtkdpjkpedklbpaaGreatDoor
set_option linter.unusedSimpArgs false
set_option linter.unusedVariables false
set_option maxRecDepth 20000
set_option maxHeartbeats 1000000
open Go.Abs

theorem cipI_ac (m r : Int) (bx mx pl : Nat → UInt8) (h : List Blk) : AC Tryz.prog 25 [.agg (Ci m bx mx pl r).toArray] h (.bool (cipB m bx mx pl r)) h := by
  have hr := inI_ac r 1 20
  cases hf : fieldB m.toNat
  · (refine AC_begin (fun _ _ => Tryz.call25 _ _) Tryz.func25 rfl Tryz.ntmps25 Tryz.results25 (fun hwf => ?_); simp only [List.length_cons, List.length_nil, Nat.reduceAdd, Nat.reduceSub, List.replicate, List.cons_append, List.nil_append])
    (refine sW (And.intro @hf (And.intro (@yieldA_at 3 6) (And.intro (@yieldA_at 8 11) (And.intro (@yieldA_at 15 18) (@yieldA_at 20 23))))) @isField_ac ?_)
    (exact sR (And.intro @cipB.eq_1 (And.intro @hf @Bool.false_and)))
  · obtain ⟨p, rfl, hp, h0, h1⟩ := fieldB_nat hf
    rw [Int.toNat_natCast] at hf
    cases hb : boxOk bx
    · (refine AC_begin (fun _ _ => Tryz.call25 _ _) Tryz.func25 rfl Tryz.ntmps25 Tryz.results25 (fun hwf => ?_); simp only [List.length_cons, List.length_nil, Nat.reduceAdd, Nat.reduceSub, List.replicate, List.cons_append, List.nil_append])
      (refine sW (And.intro @hf (And.intro @hb (And.intro (@yieldA_at 3 6) (And.intro (@yieldA_at 8 11) (And.intro (@yieldA_at 15 18) (@yieldA_at 20 23)))))) (And.intro @isField_ac @boxI_ac) ?_)
      (exact sR (And.intro @cipB.eq_1 (And.intro @Int.toNat_natCast (And.intro @hf (And.intro @hb (And.intro @Bool.false_and @Bool.and_false))))))
    · cases hd : detF p mx != 0
      · (refine AC_begin (fun _ _ => Tryz.call25 _ _) Tryz.func25 rfl Tryz.ntmps25 Tryz.results25 (fun hwf => ?_); simp only [List.length_cons, List.length_nil, Nat.reduceAdd, Nat.reduceSub, List.replicate, List.cons_append, List.nil_append])
        (refine sW (And.intro @hf (And.intro @hb (And.intro @hd (And.intro (@yieldA_at 3 6) (And.intro (@yieldA_at 8 11) (And.intro (@yieldA_at 15 18) (@yieldA_at 20 23))))))) (And.intro @isField_ac (And.intro @boxI_ac (isInvI_ac h0 h1))) ?_)
        (exact sR (And.intro @cipB.eq_1 (And.intro @Int.toNat_natCast (And.intro @hf (And.intro @hb (And.intro @hd (And.intro @Bool.false_and @Bool.and_false)))))))
      · cases hi : plOk pl
        · (refine AC_begin (fun _ _ => Tryz.call25 _ _) Tryz.func25 rfl Tryz.ntmps25 Tryz.results25 (fun hwf => ?_); simp only [List.length_cons, List.length_nil, Nat.reduceAdd, Nat.reduceSub, List.replicate, List.cons_append, List.nil_append])
          (refine sW (And.intro @hf (And.intro @hb (And.intro @hd (And.intro @hi (And.intro (@yieldA_at 3 6) (And.intro (@yieldA_at 8 11) (And.intro (@yieldA_at 15 18) (@yieldA_at 20 23)))))))) (And.intro @isField_ac (And.intro @boxI_ac (And.intro (isInvI_ac h0 h1) @permI_ac))) ?_)
          (exact sR (And.intro @cipB.eq_1 (And.intro @Int.toNat_natCast (And.intro @hf (And.intro @hb (And.intro @hd (And.intro @hi (And.intro @Bool.false_and @Bool.and_false))))))))
        · (refine AC_begin (fun _ _ => Tryz.call25 _ _) Tryz.func25 rfl Tryz.ntmps25 Tryz.results25 (fun hwf => ?_); simp only [List.length_cons, List.length_nil, Nat.reduceAdd, Nat.reduceSub, List.replicate, List.cons_append, List.nil_append])
          (refine sW (And.intro @hf (And.intro @hb (And.intro @hd (And.intro @hi (And.intro (@yieldA_at 3 6) (And.intro (@yieldA_at 8 11) (And.intro (@yieldA_at 15 18) (@yieldA_at 20 23)))))))) (And.intro @isField_ac (And.intro @boxI_ac (And.intro (isInvI_ac h0 h1) (And.intro @permI_ac @hr)))) ?_)
          (exact sR (And.intro @cipB.eq_1 (And.intro @Int.toNat_natCast (And.intro @hf (And.intro @hb (And.intro @hd (And.intro @hi @Bool.true_and)))))))

theorem cipS_ac (m r : Int) (bx mx pl : Nat → UInt8) (h : List Blk) : AC Tryz.prog 28 [.agg (Ci m bx mx pl r).toArray] h (.bool (cipB m bx mx pl r)) h := by
  have hr := inS_ac r 1 20
  cases hf : fieldB m.toNat
  · (refine AC_begin (fun _ _ => Tryz.call28 _ _) Tryz.func28 rfl Tryz.ntmps28 Tryz.results28 (fun hwf => ?_); simp only [List.length_cons, List.length_nil, Nat.reduceAdd, Nat.reduceSub, List.replicate, List.cons_append, List.nil_append])
    (refine sW (And.intro @hf (And.intro (@yieldA_at 4 9) (And.intro (@yieldA_at 10 15) (@yieldA_at 16 21)))) @fieldS_ac ?_)
    (exact sR (And.intro @cipB.eq_1 (And.intro @hf @Bool.false_and)))
  · obtain ⟨p, rfl, hp, h0, h1⟩ := fieldB_nat hf
    rw [Int.toNat_natCast] at hf
    cases hb : boxOk bx
    · (refine AC_begin (fun _ _ => Tryz.call28 _ _) Tryz.func28 rfl Tryz.ntmps28 Tryz.results28 (fun hwf => ?_); simp only [List.length_cons, List.length_nil, Nat.reduceAdd, Nat.reduceSub, List.replicate, List.cons_append, List.nil_append])
      (refine sW (And.intro @hf (And.intro @hb (And.intro (@yieldA_at 4 9) (And.intro (@yieldA_at 10 15) (@yieldA_at 16 21))))) (And.intro @fieldS_ac @boxS_ac) ?_)
      (exact sR (And.intro @cipB.eq_1 (And.intro @Int.toNat_natCast (And.intro @hf (And.intro @hb (And.intro @Bool.false_and @Bool.and_false))))))
    · cases hi : plOk pl
      · (refine AC_begin (fun _ _ => Tryz.call28 _ _) Tryz.func28 rfl Tryz.ntmps28 Tryz.results28 (fun hwf => ?_); simp only [List.length_cons, List.length_nil, Nat.reduceAdd, Nat.reduceSub, List.replicate, List.cons_append, List.nil_append])
        (refine sW (And.intro @hf (And.intro @hb (And.intro @hi (And.intro (@yieldA_at 4 9) (And.intro (@yieldA_at 10 15) (@yieldA_at 16 21)))))) (And.intro @fieldS_ac (And.intro @boxS_ac @permS_ac)) ?_)
        (exact sR (And.intro @cipB.eq_1 (And.intro @Int.toNat_natCast (And.intro @hf (And.intro @hb (And.intro @hi (And.intro @Bool.false_and @Bool.and_false)))))))
      · cases hR : inR r 1 20 <;> rw [hR] at hr
        · (refine AC_begin (fun _ _ => Tryz.call28 _ _) Tryz.func28 rfl Tryz.ntmps28 Tryz.results28 (fun hwf => ?_); simp only [List.length_cons, List.length_nil, Nat.reduceAdd, Nat.reduceSub, List.replicate, List.cons_append, List.nil_append])
          (refine sW (And.intro @hf (And.intro @hb (And.intro @hi (And.intro (@yieldA_at 4 9) (And.intro (@yieldA_at 10 15) (@yieldA_at 16 21)))))) (And.intro @fieldS_ac (And.intro @boxS_ac (And.intro @permS_ac @hr))) ?_)
          (exact sR (And.intro @cipB.eq_1 (And.intro @Int.toNat_natCast (And.intro @hf (And.intro @hb (And.intro @hi (And.intro @hR (And.intro @Bool.true_and @Bool.and_false))))))))
        · (refine AC_begin (fun _ _ => Tryz.call28 _ _) Tryz.func28 rfl Tryz.ntmps28 Tryz.results28 (fun hwf => ?_); simp only [List.length_cons, List.length_nil, Nat.reduceAdd, Nat.reduceSub, List.replicate, List.cons_append, List.nil_append])
          (refine sW (And.intro @hf (And.intro @hb (And.intro @hi (And.intro (@yieldA_at 4 9) (And.intro (@yieldA_at 10 15) (@yieldA_at 16 21)))))) (And.intro @fieldS_ac (And.intro @boxS_ac (And.intro @permS_ac (And.intro @hr (inverseS_ac h0 h1))))) ?_)
          (exact sR (And.intro @cipB.eq_1 (And.intro @Int.toNat_natCast (And.intro @hf (And.intro @hb (And.intro @hi (And.intro @hR (And.intro @Bool.true_and @Bool.and_true))))))))

end Go.Proofs.YtkdpjkpedklbpaaGreatDoor
/- The text of a cipher: both sides, and the law. -/
namespace Go.Proofs.YtkdpjkpedklbpaaGreatDoor
set_option linter.unusedSimpArgs false
set_option linter.unusedVariables false
set_option maxRecDepth 20000
set_option maxHeartbeats 1000000
open Go.Abs

theorem dT_sz1 {n : Nat} (h : n < 10) : (dT n).size = 1 := by rw [dT_small h]; rfl
theorem dT_szs {n : Nat} (h : 10 ≤ n) : (dT n).size = (dT ((n / 10 : Nat) : Int)).size + 1 := by rw [dT_step h, ByteArray.size_append]; rfl
theorem dT_sz {n : Nat} (hn : n < 1000) : (dT n).size ≤ 3 := by
  rcases Nat.lt_or_ge n 10 with h | h
  · rw [dT_sz1 h]; omega
  · rw [dT_szs h]
    rcases Nat.lt_or_ge (n / 10) 10 with h2 | h2
    · rw [dT_sz1 h2]; omega
    · rw [dT_szs h2, dT_sz1 (by omega)]; omega
theorem s47 : (⟨#[47]⟩ : ByteArray).size = 1 := rfl
theorem ciT_size {m r : Nat} (hm : m < 1000) (hr : r < 1000) (bx mx pl : Nat → UInt8) : (ciT m bx mx pl r).size ≤ 1000 := by
  have h1 := dT_sz hm
  have h2 := dT_sz hr
  unfold ciT
  simp only [ByteArray.size_append, hxT_size, s47]
  omega
theorem sz_app {x y : ByteArray} {a b : Nat} (hx : x.size ≤ a) (hy : y.size ≤ b) : (x ++ y).size ≤ a + b := by rw [ByteArray.size_append]; omega
theorem hxT_le (f : Nat → UInt8) (n : Nat) : (hxT f n).size ≤ 2 * n := by rw [hxT_size]; exact Nat.le_refl _
theorem lit5 (z a b c d e : Value) : splice (splice (splice (splice (splice [z, z, z, z, z] (0 * 1) [a]) (1 * 1) [b]) (2 * 1) [c]) (3 * 1) [d]) (4 * 1) [e] = [a, b, c, d, e] := rfl
theorem lit5r (z a b c d e : Value) : splice (splice (splice (splice (splice (repA [z] 5) (0 * 1) [a]) (1 * 1) [b]) (2 * 1) [c]) (3 * 1) [d]) (4 * 1) [e] = [a, b, c, d, e] := rfl
theorem Ci_sl1 (a0 : Int) (a1 a2 a3 : Nat → UInt8) (a4 : Int) (r : Bool) (b : Nat) : slcArr (some ⟨Ci a0 a1 a2 a3 a4, r⟩) b 1 256 1 (some 0) (some 256) = some (sl b 1 256 1) := slcArr_some (by omega) (by rw [Ci_length]; omega)
theorem Ci_sl3 (a0 : Int) (a1 a2 a3 : Nat → UInt8) (a4 : Int) (r : Bool) (b : Nat) : slcArr (some ⟨Ci a0 a1 a2 a3 a4, r⟩) b 273 16 1 (some 0) (some 16) = some (sl b 273 16 1) := slcArr_some (by omega) (by rw [Ci_length]; omega)
attribute [local irreducible] dT hxT mtT ciT
theorem decS_ac {n : Nat} (hn : n < 1000) (h : List Blk) : AC Tryz.prog 82 [.int .i64 n] h (.string (dT n)) h := by
  rcases Nat.lt_or_ge n 10 with h1 | h1
  · exact decS1_ac h1 h
  · rcases Nat.lt_or_ge n 100 with h2 | h2
    · exact decS2_ac h1 h2 h (fun H => decS1_ac (by omega) H) (by have := dT_sz (n := n / 10) (by omega); omega)
    · exact decS3_ac h1 hn h (fun H => decS2_ac (by omega) (by omega) H (fun H => decS1_ac (by omega) H) (by have := dT_sz (n := n / 10 / 10) (by omega); omega)) (by have := dT_sz (n := n / 10) (by omega); omega)

theorem textS_ac {m r : Nat} (hm : m < 1000) (hr : r < 1000) (bx mx pl : Nat → UInt8) (h : List Blk) : AC Tryz.prog 46 [.agg (Ci m bx mx pl r).toArray] h (.string (ciT m bx mx pl r)) h := by
  have e1 : ∀ (H : List Blk) (b : Nat) (q : Bool), H[b]? = some ⟨Ci m bx mx pl r, q⟩ → AC Tryz.prog 83 [sl b 1 256 1] H (.string (hxT bx 256)) H := fun H b q hb => hexS_at hb (fun i hi => Ci_get1 _ _ _ _ _ hi) (by omega)
  have e2 : ∀ (H : List Blk) (b : Nat) (q : Bool), H[b]? = some ⟨Ci m bx mx pl r, q⟩ → AC Tryz.prog 83 [sl b 273 16 1] H (.string (hxT pl 16)) H := fun H b q hb => hexS_at hb (fun i hi => Ci_get3 _ _ _ _ _ hi) (by omega)
  have e3 : ∀ (H : List Blk) (b : Nat) (q : Bool), H[b]? = some ⟨Bs 16 mx, q⟩ → AC Tryz.prog 83 [sl b 0 16 1] H (.string (hxT mx 16)) H := fun H b q hb => hexS_ac hb (by omega)
  have d1 : ∀ H : List Blk, AC Tryz.prog 82 [.int .i64 m] H (.string (dT m)) H := fun H => decS_ac hm H
  have d2 : ∀ H : List Blk, AC Tryz.prog 82 [.int .i64 r] H (.string (dT r)) H := fun H => decS_ac hr H
  have h1 := dT_sz hm
  have h2 := dT_sz hr
  have q0 : (⟨#[47]⟩ : ByteArray).size ≤ 1 := Nat.le_refl _
  have qb := hxT_le bx 256
  have qm := hxT_le mx 16
  have qp := hxT_le pl 16
  have q1 := sz_app h1 q0
  have q2 := sz_app q1 qb
  have q3 := sz_app q2 q0
  have q4 := sz_app q3 qm
  have q5 := sz_app q4 q0
  have q6 := sz_app q5 qp
  have q7 := sz_app q6 q0
  have q8 := sz_app q7 h2
  (refine AC_begin (fun _ _ => Tryz.call46 _ _) Tryz.func46 rfl Tryz.ntmps46 Tryz.results46 (fun hwf => ?_); simp only [List.length_cons, List.length_nil, Nat.reduceAdd, Nat.reduceSub, List.replicate, List.cons_append, List.nil_append])
  (repeat (first | ((first | (refine And.intro ?_ ?_; focus exact PLA) | ((first | with_reducible apply callB_i | with_reducible apply callK_intro | with_reducible apply callQ_i); (focus (first | assumption | ((first | with_reducible apply e1 | with_reducible apply e2 | with_reducible apply e3 | with_reducible apply d1 | with_reducible apply d2 | with_reducible apply rows_ac) <;> (first | assumption | rfl | (simp (disch := omega) only [go_sem]; first | done | rfl) | omega | decide | (simp; done))))); (try exact WP_au)) | refine WA_seq (WA_region ?_) | refine WA_region ?_ | refine WA_exit ?_); try simp (maxSteps := 1000000) (disch := first | omega | rfl | decide | (simp only [List.length_cons, List.length_nil, List.length_append, LV] <;> omega)) only [go_sem, Nat.reduceAdd, Int.reduceAdd, Int.reduceSub, Int.reduceMul, Bool.not_true, Bool.not_false, Ci_sl1, Ci_sl3]) | (refine (WA_rb (id := 1) [] (SubM.refl _) mixedOk ?_); simp only [List.size_toArray, List.length_cons, List.length_nil]; (repeat (first | ((first | (refine And.intro ?_ ?_; focus exact PLA) | ((first | with_reducible apply callB_i | with_reducible apply callK_intro | with_reducible apply callQ_i | with_reducible apply callC_i); (focus (first | assumption | ((first | with_reducible apply e1 | with_reducible apply e2 | with_reducible apply e3 | with_reducible apply d1 | with_reducible apply d2 | with_reducible apply rows_ac) <;> (first | assumption | rfl | (simp (disch := omega) only [go_sem]; first | done | rfl) | omega | decide | (simp; done))))); (try (focus (first | assumption | exact NL.mk rfl))); (try exact WP_au)) | (refine And.intro ?_ ?_; focus exact PLA) | ((first | with_reducible apply callB_i | with_reducible apply callK_intro | with_reducible apply callC_q); (focus (first | assumption | ((first | with_reducible apply e1 | with_reducible apply e2 | with_reducible apply e3 | with_reducible apply d1 | with_reducible apply d2 | with_reducible apply rows_ac) <;> (first | assumption | rfl | (simp (disch := omega) only [go_sem]; first | done | rfl) | omega | decide | (simp; done))))); (try exact WP_au)) | refine RB_take false [0, 4, 9, 15, 20] 20 (by rfl) (by kernel_rfl) (by decide) (by decide +kernel) ?_ | refine RB_take true [1, 2, 5, 6, 10, 16, 21] 13 (by rfl) (by kernel_rfl) (by decide) (by decide +kernel) ?_ | refine RB_take false [3, 7, 8] 10 (by rfl) (by kernel_rfl) (by decide) (by decide +kernel) ?_ | refine RB_keepC 11 _ (by rfl) (by decide +kernel) ?_ | refine RB_keepC 12 _ (by rfl) (by decide +kernel) ?_ | refine RB_take false [13, 14] 6 (by rfl) (by kernel_rfl) (by decide) (by decide +kernel) ?_ | refine RB_take true [17, 22] 4 (by rfl) (by kernel_rfl) (by decide) (by decide +kernel) ?_ | refine RB_take false [18, 19, 23, 24] 0 (by rfl) (by kernel_rfl) (by decide) (by decide +kernel) ?_ | refine RB_done (by decide +kernel) ?_); try simp (maxSteps := 1000000) (disch := first | omega | rfl | decide | (simp only [List.length_cons, List.length_nil, List.length_append, LV] <;> omega)) only [go_sem, Nat.reduceAdd, Int.reduceAdd, Int.reduceSub, Int.reduceMul, Bool.not_true, Bool.not_false, Ci_sl1, Ci_sl3])))) | refine WA_seq ?_ | refine WA_block ?_ | (refine WA_skip ?_; try simp only [go_sem]) | (refine WA_ret ?_; try simp only [go_sem]) | refine WA_ct rfl ?_ | refine WA_cf rfl ?_))
  (exact sR @ciT.eq_1)

theorem ctS_no {m r : Int} {bx mx pl : Nat → UInt8} (hb : cipB m bx mx pl r = false) (h : List Blk) : AC Tryz.prog 23 [.agg (Ci m bx mx pl r).toArray] h (.tuple #[.string ⟨#[]⟩, .int .i64 1]) h := by
  (refine AC_begin (fun _ _ => Tryz.call23 _ _) Tryz.func23 rfl Tryz.ntmps23 Tryz.results23 (fun hwf => ?_); simp only [List.length_cons, List.length_nil, Nat.reduceAdd, Nat.reduceSub, List.replicate, List.cons_append, List.nil_append])
  (refine sW @hb @cipS_ac ?_)
  (exact sR0)
theorem ctS_ok {m r : Nat} {bx mx pl : Nat → UInt8} (hm : m < 1000) (hr : r < 1000) (hb : cipB m bx mx pl r = true) (h : List Blk) : AC Tryz.prog 23 [.agg (Ci m bx mx pl r).toArray] h (.tuple #[.string (ciT m bx mx pl r), .int .i64 0]) h := by
  (refine AC_begin (fun _ _ => Tryz.call23 _ _) Tryz.func23 rfl Tryz.ntmps23 Tryz.results23 (fun hwf => ?_); simp only [List.length_cons, List.length_nil, Nat.reduceAdd, Nat.reduceSub, List.replicate, List.cons_append, List.nil_append])
  (refine sW @hb (And.intro @cipS_ac (textS_ac hm hr)) ?_)
  (exact sR0)

theorem ctI_no {m r : Int} {bx mx pl : Nat → UInt8} (hb : cipB m bx mx pl r = false) (h : List Blk) : AC Tryz.prog 22 [.agg (Ci m bx mx pl r).toArray] h (.tuple #[.string ⟨#[]⟩, .int .i64 1]) h := by
  (refine AC_begin (fun _ _ => Tryz.call22 _ _) Tryz.func22 rfl Tryz.ntmps22 Tryz.results22 (fun hwf => ?_); simp only [List.length_cons, List.length_nil, Nat.reduceAdd, Nat.reduceSub, List.replicate, List.cons_append, List.nil_append])
  (refine sW @hb @cipI_ac ?_)
  (exact sR0)
theorem ctI_ok {m r : Nat} {bx mx pl : Nat → UInt8} (hm : m < 1000) (hr : r < 1000) (hb : cipB m bx mx pl r = true) (h : List Blk) : AC Tryz.prog 22 [.agg (Ci m bx mx pl r).toArray] h (.tuple #[.string (ciT m bx mx pl r), .int .i64 0]) h := by
  have e2 : ∀ (H : List Blk) (b : Nat) (q : Bool), H[b]? = some ⟨Ci m bx mx pl r, q⟩ → AC Tryz.prog 59 [sl b 273 16 1] H (.string (hxT pl 16)) H := fun H b q hb => hexI_at hb (fun i hi => Ci_get3 _ _ _ _ _ hi) (by omega)
  have d1 : ∀ H : List Blk, AC Tryz.prog 57 [.int .i64 m] H (.string (dT m)) H := fun H => decI_ac (by omega) (by omega) H
  have d2 : ∀ H : List Blk, AC Tryz.prog 57 [.int .i64 r] H (.string (dT r)) H := fun H => decI_ac (by omega) (by omega) H
  have hra : ∀ H : List Blk, AC Tryz.prog 54 [.string (mtT mx), .string ⟨#[47]⟩, .string ⟨#[]⟩] H (.string (hxT mx 16)) H := fun H => by
    have := replaceAll_ac (s := mtT mx) (by rw [mtT_size]; omega) H
    rw [mtT_all] at this; exact this
  have hz : (joinB [dT m, hxT bx 256, hxT mx 16, hxT pl 16, dT r] ⟨#[47]⟩).size ≤ 140737488355328 := by
    rw [join_five]
    have := ciT_size hm hr bx mx pl
    unfold ciT at this
    omega
  have hj : ∀ (H : List Blk) (b : Nat) (q : Bool), H[b]? = some ⟨[.string (dT m), .string (hxT bx 256), .string (hxT mx 16), .string (hxT pl 16), .string (dT r)], q⟩ → AC Tryz.prog 56 [sl b 0 5 1, .string ⟨#[47]⟩] H (.string (ciT m bx mx pl r)) H := fun H b q hb => by
    have := join_ac (L := [dT m, hxT bx 256, hxT mx 16, hxT pl 16, dT r]) hb (by simp) (by simp) ⟨#[47]⟩ hz
    rw [join_five] at this
    unfold ciT
    exact this
  (refine AC_begin (fun _ _ => Tryz.call22 _ _) Tryz.func22 rfl Tryz.ntmps22 Tryz.results22 (fun hwf => ?_); simp only [List.length_cons, List.length_nil, Nat.reduceAdd, Nat.reduceSub, List.replicate, List.cons_append, List.nil_append])
  (repeat (first | ((first | (refine And.intro ?_ ?_; focus exact PLA) | ((first | with_reducible apply callB_i | with_reducible apply callK_intro | with_reducible apply callQ_i); (focus (first | assumption | ((first | with_reducible apply cipI_ac | with_reducible apply mtT_ac | with_reducible apply hra | with_reducible apply d1 | with_reducible apply d2 | with_reducible apply bxtI_ac | with_reducible apply e2 | with_reducible apply hj) <;> (first | assumption | rfl | (simp (disch := omega) only [go_sem]; first | done | rfl) | omega | decide | (simp; done))))); (try exact WP_au)) | refine WA_seq (WA_region ?_) | refine WA_region ?_ | refine WA_exit ?_); try simp (maxSteps := 1000000) (disch := first | omega | rfl | decide | (simp only [List.length_cons, List.length_nil, List.length_append, LV] <;> omega)) only [go_sem, Nat.reduceAdd, Int.reduceAdd, Int.reduceSub, Int.reduceMul, Bool.not_true, Bool.not_false, Ci_sl1, Ci_sl3, hb, lit5, lit5r]) | (refine (WA_rb (id := 4) [13, 14] (SubM.refl _) mixedOk ?_); simp only [List.size_toArray, List.length_cons, List.length_nil]; (repeat (first | ((first | (refine And.intro ?_ ?_; focus exact PLA) | ((first | with_reducible apply callB_i | with_reducible apply callK_intro | with_reducible apply callQ_i); (focus (first | assumption | ((first | with_reducible apply cipI_ac | with_reducible apply mtT_ac | with_reducible apply hra | with_reducible apply d1 | with_reducible apply d2 | with_reducible apply bxtI_ac | with_reducible apply e2 | with_reducible apply hj) <;> (first | assumption | rfl | (simp (disch := omega) only [go_sem]; first | done | rfl) | omega | decide | (simp; done))))); (try exact WP_au)) | refine RB_take false [0, 3, 6, 7, 10] 12 (by rfl) (by kernel_rfl) (by decide) (by decide +kernel) ?_ | refine RB_take true [1, 2, 4, 5, 8, 9, 11, 12] 4 (by rfl) (by kernel_rfl) (by decide) (by decide +kernel) ?_ | refine RB_exec 13 _ (by rfl) (by decide +kernel) (by decide +kernel) ?_ | refine RB_exec 14 _ (by rfl) (by decide +kernel) (by decide +kernel) ?_ | refine RB_take false [15, 16] 0 (by rfl) (by kernel_rfl) (by decide) (by decide +kernel) ?_ | refine RB_done (by decide +kernel) ?_); try simp (maxSteps := 1000000) (disch := first | omega | rfl | decide | (simp only [List.length_cons, List.length_nil, List.length_append, LV] <;> omega)) only [go_sem, Nat.reduceAdd, Int.reduceAdd, Int.reduceSub, Int.reduceMul, Bool.not_true, Bool.not_false, Ci_sl1, Ci_sl3, hb, lit5, lit5r])))) | refine WA_seq ?_ | refine WA_block ?_ | (refine WA_skip ?_; try simp only [go_sem]) | (refine WA_ret ?_; try simp only [go_sem]) | refine WA_ct rfl ?_ | refine WA_cf rfl ?_))
  (exact sR0)

end Go.Proofs.YtkdpjkpedklbpaaGreatDoor
/- Mixing with tables; the engines of ciphers and of networks. -/
namespace Go.Proofs.YtkdpjkpedklbpaaGreatDoor
set_option linter.unusedSimpArgs false
set_option linter.unusedVariables false
set_option maxRecDepth 20000
set_option maxHeartbeats 1000000
open Go.Abs


theorem mixT_0 (m : Nat) (a : Nat → UInt8) (i : Nat) (x : UInt8) : mixT m a (i * 1024 + 0 * 256 + x.toNat) = tm m (a (i * 4 + 0)) x := by rw [← mixT_at]; congr 1; omega
theorem mixT_1 (m : Nat) (a : Nat → UInt8) (i : Nat) (x : UInt8) : mixT m a (i * 1024 + 256 + x.toNat) = tm m (a (i * 4 + 1)) x := by rw [← mixT_at]; congr 1; omega
theorem mixT_2 (m : Nat) (a : Nat → UInt8) (i : Nat) (x : UInt8) : mixT m a (i * 1024 + 512 + x.toNat) = tm m (a (i * 4 + 2)) x := by rw [← mixT_at]; congr 1; omega
theorem mixT_3 (m : Nat) (a : Nat → UInt8) (i : Nat) (x : UInt8) : mixT m a (i * 1024 + 768 + x.toNat) = tm m (a (i * 4 + 3)) x := by rw [← mixT_at]; congr 1; omega
theorem mixF_four (m : Nat) (a f : Nat → UInt8) {c i : Nat} (hi : i < 4) :
    tm m (a (i * 4)) (f (4 * c)) ^^^ tm m (a (i * 4 + 1)) (f (4 * c + 1)) ^^^ tm m (a (i * 4 + 2)) (f (4 * c + 2)) ^^^ tm m (a (i * 4 + 3)) (f (4 * c + 3)) = mixF m a f (4 * c + i) := by
  unfold mixF
  rw [show (4 * c + i) / 4 = c by omega, show (4 * c + i) % 4 = i by omega]
  simp only [mxP, UInt8.zero_xor, Nat.mul_comm c 4, Nat.add_zero]

theorem mixM_ac {m : Nat} {h : List Blk} {bt b c : Nat} {a f : Nat → UInt8} {rt : Bool} (ht : h[bt]? = some ⟨Bs 4096 (mixT m a), rt⟩) (hb : h[b]? = some ⟨Bs (4 * c) f, true⟩) (hne : b ≠ bt) (hc : c ≤ 1000) :
    AC Tryz.prog 77 [pt bt 0, sl b 0 (4 * c) 1] h (.tuple #[]) (h.set b ⟨Bs (4 * c) (mixF m a f), true⟩) := by
  have hbl := blt hb
  have htl := blt ht
  have ht' : ∀ x, (h.set b x)[bt]? = some ⟨Bs 4096 (mixT m a), rt⟩ := fun x => set_at ht hne
  (refine AC_begin (fun _ _ => Tryz.call77 _ _) Tryz.func77 rfl Tryz.ntmps77 Tryz.results77 (fun hwf => ?_); simp only [List.length_cons, List.length_nil, Nat.reduceAdd, Nat.reduceSub, List.replicate, List.cons_append, List.nil_append])
  (refine sN0 ?_)
  refine WA_forH (fun k => [(4, .int .i64 ((4 * k : Nat) : Int)), (5, J), (6, J), (7, J), (8, J), (9, J), (10, J), (11, J), (12, J), (13, J), (14, J), (15, J), (16, J), (17, J), (18, J), (19, J), (20, J), (21, J), (22, J), (23, J), (24, J), (25, J), (26, J), (27, J), (28, J), (29, J), (30, J), (31, J), (32, J), (33, J), (34, J), (35, J), (36, J), (37, J), (38, J), (39, J), (40, J), (41, J), (42, J), (43, J), (44, J), (45, J), (46, J), (47, J), (48, J), (49, J), (50, J), (51, J), (52, J), (53, J), (54, J), (55, J), (56, J), (57, J), (58, J), (59, J), (60, J), (61, J), (62, J), (63, J), (64, J), (65, J), (66, J), (67, J), (68, J), (69, J), (70, J), (71, J), (72, J), (73, J), (74, J), (75, J), (76, J), (77, J), (78, J)]) (fun k => h.set b ⟨Bs (4 * c) (pre (4 * k) (mixF m a f) f), true⟩) (c) ?_ ?_ ?_ <;> (try simp only [patT_cons, patT_nil, patL_cons, patL_nil, list_set_zero, list_set_succ, blk_set_zero, blk_set_succ])
  · rw [Nat.mul_zero, pre_zero, set_id hb]
    (exact sS0)
  · intro q hq
    (repeat (first | ((first | (refine And.intro ?_ ?_; focus exact PLA) | refine WA_seq (WA_region ?_) | refine WA_region ?_ | refine WA_exit ?_); try simp (maxSteps := 1000000) (disch := first | omega | rfl | decide | (simp only [List.length_cons, List.length_nil, List.length_append, LV] <;> omega)) only [go_sem, Nat.reduceAdd, Int.reduceAdd, Int.reduceSub, Int.reduceMul, Bool.not_true, Bool.not_false, look_set hbl, pre_get]) | (refine WA_seq (WA_draw (id := 3) mixedOk (by kernel_rfl) ?_); simp (maxSteps := 1000000) (disch := first | omega | rfl | decide | (simp only [List.length_cons, List.length_nil, List.length_append, LV] <;> omega)) only [go_sem, Nat.reduceAdd, Int.reduceAdd, Int.reduceSub, Int.reduceMul, Bool.not_true, Bool.not_false, look_set hbl, pre_get]) | (refine WA_draw (id := 3) mixedOk (by kernel_rfl) ?_; simp (maxSteps := 1000000) (disch := first | omega | rfl | decide | (simp only [List.length_cons, List.length_nil, List.length_append, LV] <;> omega)) only [go_sem, Nat.reduceAdd, Int.reduceAdd, Int.reduceSub, Int.reduceMul, Bool.not_true, Bool.not_false, look_set hbl, pre_get]) | refine WA_seq ?_ | refine WA_block ?_ | (refine WA_skip ?_; try simp only [go_sem]) | (refine WA_ret ?_; try simp only [go_sem]) | refine WA_ct rfl ?_ | refine WA_cf rfl ?_))
    refine WA_forH (fun k => [(9, J), (35, .int .i64 k), (36, J), (37, J), (38, J), (39, J), (40, J), (41, J), (42, J), (43, J), (44, J), (45, J), (46, J), (47, J), (48, J), (49, J), (50, J), (51, J), (52, J), (53, J), (54, J), (55, J), (56, J), (57, J), (58, J), (59, J), (60, J), (61, J), (62, J), (63, J), (64, J), (65, J), (66, J), (67, J), (68, J), (69, J), (70, J), (71, J), (72, J), (73, J), (74, J), (75, J), (76, J), (77, J), (78, J)]) (fun k => h.set b ⟨Bs (4 * c) (pre (4 * q + k) (mixF m a f) f), true⟩) (4) ?_ ?_ ?_ <;> (try simp only [patT_cons, patT_nil, patL_cons, patL_nil, list_set_zero, list_set_succ, blk_set_zero, blk_set_succ])
    · (exact sS0)
    · intro i hi
      have h0 := u8_lt (f (4 * q))
      have h1 := u8_lt (f (4 * q + 1))
      have h2 := u8_lt (f (4 * q + 2))
      have h3 := u8_lt (f (4 * q + 3))
      (repeat (first | ((first | (refine And.intro ?_ ?_; focus exact PLA) | refine WA_seq (WA_region ?_) | refine WA_region ?_ | refine WA_exit ?_); try simp (maxSteps := 1000000) (disch := first | omega | rfl | decide | (simp only [List.length_cons, List.length_nil, List.length_append, LV] <;> omega)) only [go_sem, Nat.reduceAdd, Int.reduceAdd, Int.reduceSub, Int.reduceMul, Bool.not_true, Bool.not_false, look_set hbl, ht', List.set_set, mixT_0, mixT_1, mixT_2, mixT_3, mixF_four m a f hi, upd_pre]) | (refine (WA_rb (id := 7) [40] (SubM.refl _) mixedOk ?_); simp only [List.size_toArray, List.length_cons, List.length_nil]; (repeat (first | ((first | (refine And.intro ?_ ?_; focus exact PLA) | refine RB_take false [0, 1, 2, 3, 4, 5, 6, 7, 8, 9, 10, 12, 13, 14, 15, 16, 17, 18, 21, 22, 23, 24, 25, 26, 27, 30, 31, 32, 33, 34, 35, 36] 9 (by rfl) (by kernel_rfl) (by decide) (by decide +kernel) ?_ | refine RB_take true [11, 19, 28, 37] 5 (by rfl) (by kernel_rfl) (by decide) (by decide +kernel) ?_ | refine RB_take false [20, 29, 38, 39] 1 (by rfl) (by kernel_rfl) (by decide) (by decide +kernel) ?_ | refine RB_exec 40 _ (by rfl) (by decide +kernel) (by decide +kernel) ?_ | refine RB_done (by decide +kernel) ?_); try simp (maxSteps := 1000000) (disch := first | omega | rfl | decide | (simp only [List.length_cons, List.length_nil, List.length_append, LV] <;> omega)) only [go_sem, Nat.reduceAdd, Int.reduceAdd, Int.reduceSub, Int.reduceMul, Bool.not_true, Bool.not_false, look_set hbl, ht', List.set_set, mixT_0, mixT_1, mixT_2, mixT_3, mixF_four m a f hi, upd_pre])))) | refine WA_seq ?_ | refine WA_block ?_ | (refine WA_skip ?_; try simp only [go_sem]) | (refine WA_ret ?_; try simp only [go_sem]) | refine WA_ct rfl ?_ | refine WA_cf rfl ?_))
      (exact sS0)
    · (refine sN0 ?_)
      rw [show 4 * (q + 1) = 4 * q + 4 by omega]
      (exact sS0)
  · (refine sN0 ?_)
    rw [Bs_pre]
    (exact sR @ares_nil)

theorem mixM16_ac {m : Nat} {h : List Blk} {bt b : Nat} {a f : Nat → UInt8} {rt : Bool} (ht : h[bt]? = some ⟨Bs 4096 (mixT m a), rt⟩) (hb : h[b]? = some ⟨Bs 16 f, true⟩) (hne : b ≠ bt) :
    AC Tryz.prog 77 [pt bt 0, sl b 0 16 1] h (.tuple #[]) (h.set b ⟨Bs 16 (mixF m a f), true⟩) := mixM_ac (c := 4) ht hb hne (by omega)
end Go.Proofs.YtkdpjkpedklbpaaGreatDoor
/- The engines of ciphers and of networks. -/
namespace Go.Proofs.YtkdpjkpedklbpaaGreatDoor
set_option linter.unusedSimpArgs false
set_option linter.unusedVariables false
set_option maxRecDepth 20000
set_option maxHeartbeats 1000000
open Go.Abs

theorem En_splice4 (a0 a1 a2 a3 : Nat → UInt8) (a4 a5 : Value) (a6 : Int) (x : Value) : splice (En a0 a1 a2 a3 a4 a5 a6) 544 [x] = En a0 a1 a2 a3 x a5 a6 := by rw [En_cut4, mid_splice (n := 1) (by simp [Bs_length]) rfl rfl, ← En_cut4]
theorem En_splice5 (a0 a1 a2 a3 : Nat → UInt8) (a4 a5 : Value) (a6 : Int) (x : Value) : splice (En a0 a1 a2 a3 a4 a5 a6) 545 [x] = En a0 a1 a2 a3 a4 x a6 := by rw [En_cut5, mid_splice (n := 1) (by simp [Bs_length]) rfl rfl, ← En_cut5]
theorem En_splice6 (a0 a1 a2 a3 : Nat → UInt8) (a4 a5 : Value) (a6 : Int) (x : Int) : splice (En a0 a1 a2 a3 a4 a5 a6) 546 [.int .i64 x] = En a0 a1 a2 a3 a4 a5 x := by rw [En_cut6, mid_splice (n := 1) (by simp [Bs_length]) rfl rfl, ← En_cut6]
set_option maxHeartbeats 400000 in
theorem newEngine_ac {m : Nat} (h0 : 256 ≤ m) (h1 : m < 512) (bx mx : Nat → UInt8) {pl : Nat → UInt8} (hp : plOk pl = true) (r : Int) (h : List Blk) :
    AC Tryz.prog 26 [.agg (Ci m bx mx pl r).toArray] h (pt (h.length + 4) 0)
      (h ++ [⟨Ci m bx mx pl r, true⟩, ⟨Bs 16 (backF m mx), true⟩, ⟨Bs 4096 (mixT m mx), true⟩, ⟨Bs 4096 (mixT m (backF m mx)), true⟩, ⟨En bx (invP bx 256) pl (invP pl 16) (pt (h.length + 2) 0) (pt (h.length + 3) 0) r, true⟩]) := by
  (refine AC_begin (fun _ _ => Tryz.call26 _ _) Tryz.func26 rfl Tryz.ntmps26 Tryz.results26 (fun hwf => ?_); simp only [List.length_cons, List.length_nil, Nat.reduceAdd, Nat.reduceSub, List.replicate, List.cons_append, List.nil_append])
  (repeat (first | ((first | (refine And.intro ?_ ?_; focus exact PLA) | ((first | with_reducible apply callB_i | with_reducible apply callK_intro | with_reducible apply callQ_i); (focus (first | assumption | ((first | with_reducible apply redI_ac h0 h1 | with_reducible apply invBoxI_ac | with_reducible apply turnPI_ac hp | with_reducible apply newMixer_ac h0 h1) <;> (first | assumption | rfl | (simp (disch := omega) only [go_sem]; first | done | rfl) | omega | decide | (simp; done))))); (try exact WP_au)) | refine WA_seq (WA_region ?_) | refine WA_region ?_ | refine WA_exit ?_); try simp (maxSteps := 1000000) (disch := first | omega | rfl | decide | (simp only [List.length_cons, List.length_nil, List.length_append, LV] <;> omega)) only [go_sem, Nat.reduceAdd, Int.reduceAdd, Int.reduceSub, Int.reduceMul, Bool.not_true, Bool.not_false, En_splice0, En_splice1, En_splice2, En_splice3, En_splice4, En_splice5, En_splice6]) | (refine (WA_rb (id := 2) [22] (SubM.refl _) mixedOk ?_); simp only [List.size_toArray, List.length_cons, List.length_nil]; (repeat (first | ((first | (refine And.intro ?_ ?_; focus exact PLA) | ((first | with_reducible apply callB_i | with_reducible apply callK_intro | with_reducible apply callQ_i | with_reducible apply callC_i); (focus (first | assumption | ((first | with_reducible apply redI_ac h0 h1 | with_reducible apply invBoxI_ac | with_reducible apply turnPI_ac hp | with_reducible apply newMixer_ac h0 h1) <;> (first | assumption | rfl | (simp (disch := omega) only [go_sem]; first | done | rfl) | omega | decide | (simp; done))))); (try (focus (exact NL.mk rfl))); (try exact WP_au)) | refine RB_take false [0, 2, 5, 7, 10, 12, 15, 19] 16 (by rfl) (by kernel_rfl) (by decide) (by decide +kernel) ?_ | refine RB_take true [1, 3, 4, 6, 8, 9, 11, 13, 16, 17, 20] 5 (by rfl) (by kernel_rfl) (by decide) (by decide +kernel) ?_ | refine RB_keepC 14 _ (by rfl) (by decide +kernel) ?_ | refine RB_keepC 18 _ (by rfl) (by decide +kernel) ?_ | refine RB_take false [21] 2 (by rfl) (by kernel_rfl) (by decide) (by decide +kernel) ?_ | refine RB_exec 22 _ (by rfl) (by decide +kernel) (by decide +kernel) ?_ | refine RB_take false [23] 0 (by rfl) (by kernel_rfl) (by decide) (by decide +kernel) ?_ | refine RB_done (by decide +kernel) ?_); try simp (maxSteps := 1000000) (disch := first | omega | rfl | decide | (simp only [List.length_cons, List.length_nil, List.length_append, LV] <;> omega)) only [go_sem, Nat.reduceAdd, Int.reduceAdd, Int.reduceSub, Int.reduceMul, Bool.not_true, Bool.not_false, En_splice0, En_splice1, En_splice2, En_splice3, En_splice4, En_splice5, En_splice6])))) | refine WA_seq ?_ | refine WA_block ?_ | (refine WA_skip ?_; try simp only [go_sem]) | (refine WA_ret ?_; try simp only [go_sem]) | refine WA_ct rfl ?_ | refine WA_cf rfl ?_))
  (exact sR0)

end Go.Proofs.YtkdpjkpedklbpaaGreatDoor
/- The keys of rounds. -/
namespace Go.Proofs.YtkdpjkpedklbpaaGreatDoor
set_option linter.unusedSimpArgs false
set_option linter.unusedVariables false
set_option maxRecDepth 20000
set_option maxHeartbeats 1000000
open Go.Abs

/-- The next key, its first j bytes reckoned. -/
def nkP (bx y : Nat → UInt8) (rb : UInt8) : Nat → Nat → UInt8
  | 0 => y
  | j + 1 => if j = 0 then upd y 0 (y 0 ^^^ bx (y 15 ^^^ rb).toNat) else upd (nkP bx y rb j) j (nkP bx y rb j j ^^^ bx (nkP bx y rb j (j - 1)).toNat)
def nextF (bx y : Nat → UInt8) (rb : UInt8) : Nat → UInt8 := nkP bx y rb 16
theorem nkP_zero (bx y : Nat → UInt8) (rb : UInt8) : nkP bx y rb 0 = y := rfl
theorem nkP_first (bx y : Nat → UInt8) (rb : UInt8) : upd y 0 (y 0 ^^^ bx (y 15 ^^^ rb).toNat) = nkP bx y rb 1 := rfl
theorem nkP_step (bx y : Nat → UInt8) (rb : UInt8) {j : Nat} (h : j ≠ 0) : upd (nkP bx y rb j) j (nkP bx y rb j j ^^^ bx (nkP bx y rb j (j - 1)).toNat) = nkP bx y rb (j + 1) := by
  rw [nkP, if_neg h]
theorem nextS_ac (bx y : Nat → UInt8) (r : Int) (h : List Blk) : AC Tryz.prog 75 [.agg (Bs 256 bx).toArray, .agg (Bs 16 y).toArray, .int .i64 r] h (.agg (Bs 16 (nextF bx y (toB r))).toArray) h := by
  (refine AC_begin (fun _ _ => Tryz.call75 _ _) Tryz.func75 rfl Tryz.ntmps75 Tryz.results75 (fun hwf => ?_); simp only [List.length_cons, List.length_nil, Nat.reduceAdd, Nat.reduceSub, List.replicate, List.cons_append, List.nil_append])
  (refine sN0 ?_)
  refine WA_forP (fun k => [(7, .int .i64 k), (8, J), (9, J), (10, J), (11, J), (12, J), (13, J), (14, J), (15, J), (16, J), (17, J), (18, J), (19, J), (20, J), (21, J), (22, J), (23, J), (24, J), (25, J), (26, J), (27, J), (28, J), (29, J), (30, J), (31, J), (32, J)]) (fun k => [(1, ⟨Bs 16 (nkP bx y (toB r) k), true⟩)]) (16) ?_ ?_ ?_ <;> (try simp only [patT_cons, patT_nil, patL_cons, patL_nil, list_set_zero, list_set_succ, blk_set_zero, blk_set_succ])
  · rw [nkP_zero]
    (exact sS0)
  · intro j hj
    by_cases h0 : j = 0
    · subst h0
      have hx := u8_lt (y 15 ^^^ toB r)
      rw [nkP_zero]
      (repeat (first | ((first | (refine And.intro ?_ ?_; focus exact PLA) | refine WA_seq (WA_region ?_) | refine WA_region ?_ | refine WA_exit ?_); try simp (maxSteps := 1000000) (disch := first | omega | rfl | decide | (simp only [List.length_cons, List.length_nil, List.length_append, LV] <;> omega)) only [go_sem, Nat.reduceAdd, Int.reduceAdd, Int.reduceSub, Int.reduceMul, Bool.not_true, Bool.not_false, show Int.tmod 15 16 = 15 from rfl, show (15 : Int).toNat = 15 from rfl, show (0 + 15) % 16 = 15 from rfl, beq_self_eq_true, nkP_first]) | (refine (WA_rb (id := 7) [9] (SubM.refl _) mixedOk ?_); simp only [List.size_toArray, List.length_cons, List.length_nil]; (repeat (first | ((first | (refine And.intro ?_ ?_; focus exact PLA) | refine RB_take false [0, 1, 2, 4, 5] 5 (by rfl) (by kernel_rfl) (by decide) (by decide +kernel) ?_ | refine RB_take true [3, 6] 3 (by rfl) (by kernel_rfl) (by decide) (by decide +kernel) ?_ | refine RB_take false [7, 8] 1 (by rfl) (by kernel_rfl) (by decide) (by decide +kernel) ?_ | refine RB_exec 9 _ (by rfl) (by decide +kernel) (by decide +kernel) ?_ | refine RB_done (by decide +kernel) ?_); try simp (maxSteps := 1000000) (disch := first | omega | rfl | decide | (simp only [List.length_cons, List.length_nil, List.length_append, LV] <;> omega)) only [go_sem, Nat.reduceAdd, Int.reduceAdd, Int.reduceSub, Int.reduceMul, Bool.not_true, Bool.not_false, show Int.tmod 15 16 = 15 from rfl, show (15 : Int).toNat = 15 from rfl, show (0 + 15) % 16 = 15 from rfl, beq_self_eq_true, nkP_first])))) | refine WA_seq ?_ | refine WA_block ?_ | (refine WA_skip ?_; try simp only [go_sem]) | (refine WA_ret ?_; try simp only [go_sem]) | refine WA_ct rfl ?_ | refine WA_cf rfl ?_))
      (exact sS0)
    · have hb : (j == 0) = false := by simpa using h0
      have hx := u8_lt (nkP bx y (toB r) j (j - 1))
      (repeat (first | ((first | (refine And.intro ?_ ?_; focus exact PLA) | refine WA_seq (WA_region ?_) | refine WA_region ?_ | refine WA_exit ?_); try simp (maxSteps := 1000000) (disch := first | omega | rfl | decide | (simp only [List.length_cons, List.length_nil, List.length_append, LV] <;> omega)) only [go_sem, Nat.reduceAdd, Int.reduceAdd, Int.reduceSub, Int.reduceMul, Bool.not_true, Bool.not_false, show (j + 15) % 16 = j - 1 by omega, hb, nkP_step bx y (toB r) h0]) | (refine (WA_rb (id := 7) [9] (SubM.refl _) mixedOk ?_); simp only [List.size_toArray, List.length_cons, List.length_nil]; (repeat (first | ((first | (refine And.intro ?_ ?_; focus exact PLA) | refine RB_take false [0, 1, 2, 4, 5] 5 (by rfl) (by kernel_rfl) (by decide) (by decide +kernel) ?_ | refine RB_take true [3, 6] 3 (by rfl) (by kernel_rfl) (by decide) (by decide +kernel) ?_ | refine RB_take false [7, 8] 1 (by rfl) (by kernel_rfl) (by decide) (by decide +kernel) ?_ | refine RB_exec 9 _ (by rfl) (by decide +kernel) (by decide +kernel) ?_ | refine RB_done (by decide +kernel) ?_); try simp (maxSteps := 1000000) (disch := first | omega | rfl | decide | (simp only [List.length_cons, List.length_nil, List.length_append, LV] <;> omega)) only [go_sem, Nat.reduceAdd, Int.reduceAdd, Int.reduceSub, Int.reduceMul, Bool.not_true, Bool.not_false, show (j + 15) % 16 = j - 1 by omega, hb, nkP_step bx y (toB r) h0])))) | refine WA_seq ?_ | refine WA_block ?_ | (refine WA_skip ?_; try simp only [go_sem]) | (refine WA_ret ?_; try simp only [go_sem]) | refine WA_ct rfl ?_ | refine WA_cf rfl ?_))
      (exact sS0)
  · (refine sN0 ?_)
    (exact sR (show nkP bx y (toB r) 16 = nextF bx y (toB r) from rfl))

theorem nextI_ac {h : List Blk} {be : Nat} {bx ib pl ip : Nat → UInt8} {v4 v5 : Value} {rr : Int} {re : Bool} (he : h[be]? = some ⟨En bx ib pl ip v4 v5 rr, re⟩) (y : Nat → UInt8) (r : Int) :
    AC Tryz.prog 70 [pt be 0, .agg (Bs 16 y).toArray, .int .i64 r] h (.agg (Bs 16 (nextF bx y (toB r))).toArray) h := by
  have hbe := blt he
  have hx0 := u8_lt (y 15 ^^^ toB r)
  (refine AC_begin (fun _ _ => Tryz.call70 _ _) Tryz.func70 rfl Tryz.ntmps70 Tryz.results70 (fun hwf => ?_); simp only [List.length_cons, List.length_nil, Nat.reduceAdd, Nat.reduceSub, List.replicate, List.cons_append, List.nil_append])
  (repeat (first | ((first | (refine And.intro ?_ ?_; focus exact PLA) | refine WA_seq (WA_region ?_) | refine WA_region ?_ | refine WA_exit ?_); try simp (maxSteps := 1000000) (disch := first | omega | rfl | decide | (simp only [List.length_cons, List.length_nil, List.length_append, LV] <;> omega)) only [go_sem, Nat.reduceAdd, Int.reduceAdd, Int.reduceSub, Int.reduceMul, Bool.not_true, Bool.not_false, look_old he, nkP_first]) | (refine (WA_rb (id := 1) [14] (SubM.refl _) mixedOk ?_); simp only [List.size_toArray, List.length_cons, List.length_nil]; (repeat (first | ((first | (refine And.intro ?_ ?_; focus exact PLA) | refine RB_take false [0, 2, 3, 5, 6, 8, 9] 8 (by rfl) (by kernel_rfl) (by decide) (by decide +kernel) ?_ | refine RB_take true [1, 4] 6 (by rfl) (by kernel_rfl) (by decide) (by decide +kernel) ?_ | refine RB_take false [7, 10] 4 (by rfl) (by kernel_rfl) (by decide) (by decide +kernel) ?_ | refine RB_take true [11] 3 (by rfl) (by kernel_rfl) (by decide) (by decide +kernel) ?_ | refine RB_take false [12, 13] 1 (by rfl) (by kernel_rfl) (by decide) (by decide +kernel) ?_ | refine RB_exec 14 _ (by rfl) (by decide +kernel) (by decide +kernel) ?_ | refine RB_done (by decide +kernel) ?_); try simp (maxSteps := 1000000) (disch := first | omega | rfl | decide | (simp only [List.length_cons, List.length_nil, List.length_append, LV] <;> omega)) only [go_sem, Nat.reduceAdd, Int.reduceAdd, Int.reduceSub, Int.reduceMul, Bool.not_true, Bool.not_false, look_old he, nkP_first])))) | refine WA_seq ?_ | refine WA_block ?_ | (refine WA_skip ?_; try simp only [go_sem]) | (refine WA_ret ?_; try simp only [go_sem]) | refine WA_ct rfl ?_ | refine WA_cf rfl ?_))
  refine WA_forP (fun k => [(7, .int .i64 ((k + 1 : Nat) : Int)), (22, J), (23, J), (24, J), (25, J), (26, J), (27, J), (28, J), (29, J), (30, J), (31, J), (32, J), (33, J), (34, J), (35, J), (36, J), (37, J), (38, J), (39, J)]) (fun k => [(0, ⟨Bs 16 (nkP bx y (toB r) (k + 1)), true⟩)]) (15) ?_ ?_ ?_ <;> (try simp only [patT_cons, patT_nil, patL_cons, patL_nil, list_set_zero, list_set_succ, blk_set_zero, blk_set_succ])
  · (exact sS0)
  · intro j hj
    have hx := u8_lt (nkP bx y (toB r) (j + 1) j)
    have hs := nkP_step bx y (toB r) (j := j + 1) (by omega)
    rw [show j + 1 - 1 = j by omega] at hs
    (repeat (first | ((first | (refine And.intro ?_ ?_; focus exact PLA) | refine WA_seq (WA_region ?_) | refine WA_region ?_ | refine WA_exit ?_); try simp (maxSteps := 1000000) (disch := first | omega | rfl | decide | (simp only [List.length_cons, List.length_nil, List.length_append, LV] <;> omega)) only [go_sem, Nat.reduceAdd, Int.reduceAdd, Int.reduceSub, Int.reduceMul, Bool.not_true, Bool.not_false, look_old he, show j + 1 - 1 = j by omega, hs]) | (refine (WA_rb (id := 5) [14] (SubM.refl _) mixedOk ?_); simp only [List.size_toArray, List.length_cons, List.length_nil]; (repeat (first | ((first | (refine And.intro ?_ ?_; focus exact PLA) | refine RB_take false [0, 1, 3, 4, 5, 6, 8, 9] 7 (by rfl) (by kernel_rfl) (by decide) (by decide +kernel) ?_ | refine RB_take true [2, 7] 5 (by rfl) (by kernel_rfl) (by decide) (by decide +kernel) ?_ | refine RB_take false [10] 4 (by rfl) (by kernel_rfl) (by decide) (by decide +kernel) ?_ | refine RB_take true [11] 3 (by rfl) (by kernel_rfl) (by decide) (by decide +kernel) ?_ | refine RB_take false [12, 13] 1 (by rfl) (by kernel_rfl) (by decide) (by decide +kernel) ?_ | refine RB_exec 14 _ (by rfl) (by decide +kernel) (by decide +kernel) ?_ | refine RB_done (by decide +kernel) ?_); try simp (maxSteps := 1000000) (disch := first | omega | rfl | decide | (simp only [List.length_cons, List.length_nil, List.length_append, LV] <;> omega)) only [go_sem, Nat.reduceAdd, Int.reduceAdd, Int.reduceSub, Int.reduceMul, Bool.not_true, Bool.not_false, look_old he, show j + 1 - 1 = j by omega, hs])))) | refine WA_seq ?_ | refine WA_block ?_ | (refine WA_skip ?_; try simp only [go_sem]) | (refine WA_ret ?_; try simp only [go_sem]) | refine WA_ct rfl ?_ | refine WA_cf rfl ?_))
    (exact sS0)
  · (refine sN0 ?_)
    (exact sR (show nkP bx y (toB r) (15 + 1) = nextF bx y (toB r) from rfl))

/-- The key of round r. -/
def kyF (bx y : Nat → UInt8) : Nat → Nat → UInt8
  | 0 => y
  | r + 1 => nextF bx (kyF bx y r) (UInt8.ofNat (r + 1))
def keysF (bx y : Nat → UInt8) : Nat → UInt8 := fun i => kyF bx y (i / 16) (i % 16)
theorem keysF_zero (bx y : Nat → UInt8) : Bs ((0 + 1) * 16) (keysF bx y) = Bs 16 y := Bs_congr fun i hi => by
  unfold keysF; rw [show i / 16 = 0 by omega, show i % 16 = i by omega]; rfl
theorem Bs_snoc16 {m z : Nat} {F g : Nat → UInt8} (h : ∀ t, t < z → g t = F (m + t)) : Bs m F ++ Bs z g = Bs (m + z) F := by
  apply List.ext_getElem?
  intro i
  rw [List.getElem?_append, Bs_length]
  by_cases h1 : i < m
  · rw [if_pos h1, Bs_get h1, Bs_get (by omega)]
  · rw [if_neg h1]
    by_cases h2 : i < m + z
    · rw [Bs_get (by omega), Bs_get h2, h _ (by omega)]; congr 3; omega
    · rw [List.getElem?_eq_none (by rw [Bs_length]; omega), List.getElem?_eq_none (by rw [Bs_length]; omega)]
theorem keysF_snoc (bx y : Nat → UInt8) (k : Nat) : Bs ((k + 1) * 16) (keysF bx y) ++ Bs 16 (kyF bx y (k + 1)) = Bs ((k + 1 + 1) * 16) (keysF bx y) := by
  rw [show (k + 1 + 1) * 16 = (k + 1) * 16 + 16 by omega]
  exact Bs_snoc16 fun t ht => by unfold keysF; rw [show ((k + 1) * 16 + t) / 16 = k + 1 by omega, show ((k + 1) * 16 + t) % 16 = t by omega]
theorem keysS0_ac (m r : Int) (bx mx pl y : Nat → UInt8) {n : Nat} (hn : n ≤ 1000) (h : List Blk) : AC Tryz.prog 29 [.agg (Ci m bx mx pl r).toArray, .agg (Bs 16 y).toArray, .int .i64 n] h (sl (h.length + 2) 0 (n + 1) 16)
    (h ++ [⟨Ci m bx mx pl r, true⟩, ⟨Bs 16 (kyF bx y n), true⟩, ⟨Bs ((n + 1) * 16) (keysF bx y), true⟩]) := by
  (refine AC_begin (fun _ _ => Tryz.call29 _ _) Tryz.func29 rfl Tryz.ntmps29 Tryz.results29 (fun hwf => ?_); simp only [List.length_cons, List.length_nil, Nat.reduceAdd, Nat.reduceSub, List.replicate, List.cons_append, List.nil_append])
  (refine sN @lit1 ?_)
  refine WA_forP (fun k => [(7, sl (h.length + 2) 0 (k + 1) 16), (8, .int .i64 ((k + 1 : Nat) : Int)), (10, J), (11, J), (12, J), (13, J), (14, J), (15, J), (16, J), (17, J), (18, J), (19, J), (20, J), (21, J), (22, J), (23, J), (24, J)]) (fun k => [(1, ⟨Bs 16 (kyF bx y k), true⟩), (2, ⟨Bs ((k + 1) * 16) (keysF bx y), true⟩)]) (n) ?_ ?_ ?_ <;> (try simp only [patT_cons, patT_nil, patL_cons, patL_nil, list_set_zero, list_set_succ, blk_set_zero, blk_set_succ])
  · rw [keysF_zero, show kyF bx y 0 = y from rfl]
    (exact sS0)
  · intro j hj
    (refine sW (And.intro @lit1 (show nextF bx (kyF bx y j) (UInt8.ofNat (j + 1)) = kyF bx y (j + 1) from rfl)) @nextS_ac ?_)
    (exact gCE @keysF_snoc [0, 1, 4])
  · (refine sN0 ?_)
    (exact sR0)
theorem keysS_ac (m r : Int) (bx mx pl y : Nat → UInt8) {n : Nat} (hn : n ≤ 1000) (h : List Blk) : AC Tryz.prog 29 [.agg (Ci m bx mx pl r).toArray, .agg (Bs 16 y).toArray, .int .i64 n] h (sl h.length 0 (n + 1) 16)
    (h ++ [⟨Bs ((n + 1) * 16) (keysF bx y), true⟩]) := by
  (refine AC_gc [2] (keysS0_ac m r bx mx pl y hn h) (by decide) ?_ ?_ ?_; (focus (repeat (first | exact trivial | (refine And.intro ⟨_, rfl, ?_⟩ ?_; (focus first | (refine Fit_plain ?_; simp only [go_sem, List.all_append, List.all_cons, List.all_nil, Bool.and_self]; done) | exact Fit_nil rfl | exact Fit_dead | (refine Fit_eq ?_ ?_; (focus simp only [go_sem, List.all_append, List.all_cons, List.all_nil, Bool.and_self]); (focus (first | rfl | (simp only [Int.natCast_add, Int.natCast_one, Int.natCast_zero, Int.cast_ofNat_Int, Nat.add_zero]; done) | (simp only [Int.natCast_add, Int.natCast_one, Int.natCast_zero, Int.cast_ofNat_Int, Nat.add_zero]; rfl))))))))); (focus first | (refine renV_sl ?_; first | (rw [rhoF_new0]; rfl) | (rw [rhoF_new]; rfl) | (rw [rhoF_old]; first | assumption | omega)) | (refine renV_pt ?_; first | (rw [rhoF_new0]; rfl) | (rw [rhoF_new]; rfl) | (rw [rhoF_old]; first | assumption | omega)) | (refine renV_two ?_ ?_; (focus first | (refine ren1_sl ?_; first | (rw [rhoF_new0]; rfl) | (rw [rhoF_new]; rfl) | (rw [rhoF_old]; first | assumption | omega)) | rfl); (focus rfl)) | rfl | (refine (renV_plain ?_).symm; first | rfl | (refine plain_agg ?_; simp only [go_sem, List.all_append, List.all_cons, List.all_nil, Bool.and_self]; done))); (focus first | (simp only [wfV, wf1, wfC, List.length_append, List.length_cons, List.length_nil]; omega) | (refine wfV_two ?_ ?_; (focus simp only [wf1, wfC, List.length_append, List.length_cons, List.length_nil]; omega); (focus trivial)) | (refine plainV_wf ?_; (focus first | rfl | (refine plain_agg ?_; simp only [go_sem, List.all_append, List.all_cons, List.all_nil, Bool.and_self]; done)); done)))

theorem keysI0_ac {h : List Blk} {be : Nat} {bx ib pl ip : Nat → UInt8} {v4 v5 : Value} {rr : Int} {re : Bool} (he : h[be]? = some ⟨En bx ib pl ip v4 v5 rr, re⟩) (y : Nat → UInt8) {n : Nat} (hn : n ≤ 1000) :
    AC Tryz.prog 27 [pt be 0, .agg (Bs 16 y).toArray, .int .i64 n] h (sl (h.length + 1) 0 (n + 1) 16) (h ++ [⟨Bs 16 (kyF bx y n), true⟩, ⟨Bs ((n + 1) * 16) (keysF bx y), true⟩]) := by
  have hbe := blt he
  (refine AC_begin (fun _ _ => Tryz.call27 _ _) Tryz.func27 rfl Tryz.ntmps27 Tryz.results27 (fun hwf => ?_); simp only [List.length_cons, List.length_nil, Nat.reduceAdd, Nat.reduceSub, List.replicate, List.cons_append, List.nil_append])
  (refine sN @lit1 ?_)
  refine WA_forP (fun k => [(7, sl (h.length + 1) 0 (k + 1) 16), (8, .int .i64 ((k + 1 : Nat) : Int)), (10, J), (11, J), (12, J), (13, J), (14, J), (15, J), (16, J), (17, J), (18, J), (19, J), (20, J), (21, J), (22, J), (23, J)]) (fun k => [(0, ⟨Bs 16 (kyF bx y k), true⟩), (1, ⟨Bs ((k + 1) * 16) (keysF bx y), true⟩)]) (n) ?_ ?_ ?_ <;> (try simp only [patT_cons, patT_nil, patL_cons, patL_nil, list_set_zero, list_set_succ, blk_set_zero, blk_set_succ])
  · rw [keysF_zero, show kyF bx y 0 = y from rfl]
    (exact sS0)
  · intro j hj
    (refine sY (And.intro @lit1 (show nextF bx (kyF bx y j) (UInt8.ofNat (j + 1)) = kyF bx y (j + 1) from rfl)) @nextI_ac ?_)
    (exact gCE @keysF_snoc [0, 3])
  · (refine sN0 ?_)
    (exact sR0)
theorem keysI_ac {h : List Blk} {be : Nat} {bx ib pl ip : Nat → UInt8} {v4 v5 : Value} {rr : Int} {re : Bool} (he : h[be]? = some ⟨En bx ib pl ip v4 v5 rr, re⟩) (y : Nat → UInt8) {n : Nat} (hn : n ≤ 1000) :
    AC Tryz.prog 27 [pt be 0, .agg (Bs 16 y).toArray, .int .i64 n] h (sl h.length 0 (n + 1) 16) (h ++ [⟨Bs ((n + 1) * 16) (keysF bx y), true⟩]) := by
  (refine AC_gc [1] (keysI0_ac he y hn) (by decide) ?_ ?_ ?_; (focus (repeat (first | exact trivial | (refine And.intro ⟨_, rfl, ?_⟩ ?_; (focus first | (refine Fit_plain ?_; simp only [go_sem, List.all_append, List.all_cons, List.all_nil, Bool.and_self]; done) | exact Fit_nil rfl | exact Fit_dead | (refine Fit_eq ?_ ?_; (focus simp only [go_sem, List.all_append, List.all_cons, List.all_nil, Bool.and_self]); (focus (first | rfl | (simp only [Int.natCast_add, Int.natCast_one, Int.natCast_zero, Int.cast_ofNat_Int, Nat.add_zero]; done) | (simp only [Int.natCast_add, Int.natCast_one, Int.natCast_zero, Int.cast_ofNat_Int, Nat.add_zero]; rfl))))))))); (focus first | (refine renV_sl ?_; first | (rw [rhoF_new0]; rfl) | (rw [rhoF_new]; rfl) | (rw [rhoF_old]; first | assumption | omega)) | (refine renV_pt ?_; first | (rw [rhoF_new0]; rfl) | (rw [rhoF_new]; rfl) | (rw [rhoF_old]; first | assumption | omega)) | (refine renV_two ?_ ?_; (focus first | (refine ren1_sl ?_; first | (rw [rhoF_new0]; rfl) | (rw [rhoF_new]; rfl) | (rw [rhoF_old]; first | assumption | omega)) | rfl); (focus rfl)) | rfl | (refine (renV_plain ?_).symm; first | rfl | (refine plain_agg ?_; simp only [go_sem, List.all_append, List.all_cons, List.all_nil, Bool.and_self]; done))); (focus first | (simp only [wfV, wf1, wfC, List.length_append, List.length_cons, List.length_nil]; omega) | (refine wfV_two ?_ ?_; (focus simp only [wf1, wfC, List.length_append, List.length_cons, List.length_nil]; omega); (focus trivial)) | (refine plainV_wf ?_; (focus first | rfl | (refine plain_agg ?_; simp only [go_sem, List.all_append, List.all_cons, List.all_nil, Bool.and_self]; done)); done)))

end Go.Proofs.YtkdpjkpedklbpaaGreatDoor
/- Layers of ciphers. -/
namespace Go.Proofs.YtkdpjkpedklbpaaGreatDoor
set_option linter.unusedSimpArgs false
set_option linter.unusedVariables false
set_option maxRecDepth 20000
set_option maxHeartbeats 1000000
open Go.Abs

def layF (m : Nat) (mx pl d : Nat → UInt8) (last : Bool) : Nat → UInt8 := cond last (movF pl d) (mixF m mx (movF pl d))
def befF (m : Nat) (mx pl e : Nat → UInt8) (last : Bool) : Nat → UInt8 := movF (invP pl 16) (cond last e (mixF m (backF m mx) e))
end Go.Proofs.YtkdpjkpedklbpaaGreatDoor
/- KeysOfRounds, KeysOfNetwork: both sides and the laws. -/
namespace Go.Proofs.YtkdpjkpedklbpaaGreatDoor
set_option linter.unusedSimpArgs false
set_option linter.unusedVariables false
set_option maxRecDepth 20000
set_option maxHeartbeats 1000000
open Go.Abs

theorem keysOS_bad {m r : Int} {bx mx pl : Nat → UInt8} (hc : cipB m bx mx pl r = false) (y : Nat → UInt8) (h : List Blk) : AC Tryz.prog 7 [.agg (Ci m bx mx pl r).toArray, .agg (Bs 16 y).toArray] h (.tuple #[.slice none 0 0, .int .i64 1]) h := by
  (refine AC_begin (fun _ _ => Tryz.call7 _ _) Tryz.func7 rfl Tryz.ntmps7 Tryz.results7 (fun hwf => ?_); simp only [List.length_cons, List.length_nil, Nat.reduceAdd, Nat.reduceSub, List.replicate, List.cons_append, List.nil_append])
  (refine sW @hc @cipS_ac ?_)
  (exact sR0)
theorem keysOS0_ok {m : Int} {n : Nat} {bx mx pl : Nat → UInt8} (hc : cipB m bx mx pl n = true) (hn : n ≤ 20) (y : Nat → UInt8) (h : List Blk) : AC Tryz.prog 7 [.agg (Ci m bx mx pl n).toArray, .agg (Bs 16 y).toArray] h (.tuple #[sl (h.length + 2) 0 (n + 1) 16, .int .i64 0])
    (h ++ [⟨Ci m bx mx pl n, true⟩, ⟨Bs 16 y, true⟩, ⟨Bs ((n + 1) * 16) (keysF bx y), true⟩]) := by
  have hk : ∀ h, AC Tryz.prog 29 [.agg (Ci m bx mx pl n).toArray, .agg (Bs 16 y).toArray, .int .i64 n] h (sl h.length 0 (n + 1) 16) (h ++ [⟨Bs ((n + 1) * 16) (keysF bx y), true⟩]) := fun h => keysS_ac m n bx mx pl y (by omega) h
  (refine AC_begin (fun _ _ => Tryz.call7 _ _) Tryz.func7 rfl Tryz.ntmps7 Tryz.results7 (fun hwf => ?_); simp only [List.length_cons, List.length_nil, Nat.reduceAdd, Nat.reduceSub, List.replicate, List.cons_append, List.nil_append])
  (refine sW @hc (And.intro @cipS_ac @hk) ?_)
  (exact sR0)
theorem keysOS_ok {m : Int} {n : Nat} {bx mx pl : Nat → UInt8} (hc : cipB m bx mx pl n = true) (hn : n ≤ 20) (y : Nat → UInt8) (h : List Blk) : AC Tryz.prog 7 [.agg (Ci m bx mx pl n).toArray, .agg (Bs 16 y).toArray] h (.tuple #[sl h.length 0 (n + 1) 16, .int .i64 0])
    (h ++ [⟨Bs ((n + 1) * 16) (keysF bx y), true⟩]) := by
  (refine AC_gc [2] (keysOS0_ok hc hn y h) (by decide) ?_ ?_ ?_; (focus (repeat (first | exact trivial | (refine And.intro ⟨_, rfl, ?_⟩ ?_; (focus first | (refine Fit_plain ?_; simp only [go_sem, List.all_append, List.all_cons, List.all_nil, Bool.and_self]; done) | exact Fit_nil rfl | exact Fit_dead | (refine Fit_eq ?_ ?_; (focus simp only [go_sem, List.all_append, List.all_cons, List.all_nil, Bool.and_self]); (focus (first | rfl | (simp only [Int.natCast_add, Int.natCast_one, Int.natCast_zero, Int.cast_ofNat_Int, Nat.add_zero]; done) | (simp only [Int.natCast_add, Int.natCast_one, Int.natCast_zero, Int.cast_ofNat_Int, Nat.add_zero]; rfl))))))))); (focus first | (refine renV_sl ?_; first | (rw [rhoF_new0]; rfl) | (rw [rhoF_new]; rfl) | (rw [rhoF_old]; first | assumption | omega)) | (refine renV_pt ?_; first | (rw [rhoF_new0]; rfl) | (rw [rhoF_new]; rfl) | (rw [rhoF_old]; first | assumption | omega)) | (refine renV_two ?_ ?_; (focus first | (refine ren1_sl ?_; first | (rw [rhoF_new0]; rfl) | (rw [rhoF_new]; rfl) | (rw [rhoF_old]; first | assumption | omega)) | rfl); (focus rfl)) | rfl | (refine (renV_plain ?_).symm; first | rfl | (refine plain_agg ?_; simp only [go_sem, List.all_append, List.all_cons, List.all_nil, Bool.and_self]; done))); (focus first | (simp only [wfV, wf1, wfC, List.length_append, List.length_cons, List.length_nil]; omega) | (refine wfV_two ?_ ?_; (focus simp only [wf1, wfC, List.length_append, List.length_cons, List.length_nil]; omega); (focus trivial)) | (refine plainV_wf ?_; (focus first | rfl | (refine plain_agg ?_; simp only [go_sem, List.all_append, List.all_cons, List.all_nil, Bool.and_self]; done)); done)))

theorem keysOI_bad {m r : Int} {bx mx pl : Nat → UInt8} (hc : cipB m bx mx pl r = false) (y : Nat → UInt8) (h : List Blk) : AC Tryz.prog 6 [.agg (Ci m bx mx pl r).toArray, .agg (Bs 16 y).toArray] h (.tuple #[.slice none 0 0, .int .i64 1]) h := by
  (refine AC_begin (fun _ _ => Tryz.call6 _ _) Tryz.func6 rfl Tryz.ntmps6 Tryz.results6 (fun hwf => ?_); simp only [List.length_cons, List.length_nil, Nat.reduceAdd, Nat.reduceSub, List.replicate, List.cons_append, List.nil_append])
  (refine sW @hc @cipI_ac ?_)
  (exact sR0)
theorem keysOI0_ok {k n : Nat} {bx mx pl : Nat → UInt8} (hc : cipB (k : Int) bx mx pl n = true) (h0 : 256 ≤ k) (h1 : k < 512) (hp : plOk pl = true) (hn : n ≤ 20) (y : Nat → UInt8) (h : List Blk) : AC Tryz.prog 6 [.agg (Ci k bx mx pl n).toArray, .agg (Bs 16 y).toArray] h (.tuple #[sl (h.length + 7) 0 (n + 1) 16, .int .i64 0])
    (h ++ [⟨Ci k bx mx pl n, true⟩, ⟨Bs 16 y, true⟩, ⟨Ci k bx mx pl n, true⟩, ⟨Bs 16 (backF k mx), true⟩, ⟨Bs 4096 (mixT k mx), true⟩, ⟨Bs 4096 (mixT k (backF k mx)), true⟩, ⟨En bx (invP bx 256) pl (invP pl 16) (pt (h.length + 4) 0) (pt (h.length + 5) 0) n, true⟩, ⟨Bs ((n + 1) * 16) (keysF bx y), true⟩]) := by
  (refine AC_begin (fun _ _ => Tryz.call6 _ _) Tryz.func6 rfl Tryz.ntmps6 Tryz.results6 (fun hwf => ?_); simp only [List.length_cons, List.length_nil, Nat.reduceAdd, Nat.reduceSub, List.replicate, List.cons_append, List.nil_append])
  (repeat (first | ((first | (refine And.intro ?_ ?_; focus exact PLA) | ((first | with_reducible apply callB_i | with_reducible apply callK_intro | with_reducible apply callQ_i); (focus (first | assumption | ((first | with_reducible apply cipI_ac | with_reducible apply newEngine_ac h0 h1 _ _ hp) <;> (first | assumption | rfl | (simp (disch := omega) only [go_sem]; first | done | rfl) | omega | decide | (simp; done))) | (with_reducible apply keysI_ac <;> (first | assumption | (refine look_old ?_ _; assumption) | rfl | (simp (disch := omega) only [go_sem]; first | done | rfl) | omega | decide | (simp; done))))); (try exact WP_au)) | refine WA_seq (WA_region ?_) | refine WA_region ?_ | refine WA_exit ?_); try simp (maxSteps := 1000000) (disch := first | omega | rfl | decide | (simp only [List.length_cons, List.length_nil, List.length_append, LV] <;> omega)) only [go_sem, Nat.reduceAdd, Int.reduceAdd, Int.reduceSub, Int.reduceMul, Bool.not_true, Bool.not_false, hc, Bool.not_true]) | (refine (WA_rb (id := 3) [5] (SubM.refl _) mixedOk ?_); simp only [List.size_toArray, List.length_cons, List.length_nil]; (repeat (first | ((first | (refine And.intro ?_ ?_; focus exact PLA) | ((first | with_reducible apply callB_i | with_reducible apply callK_intro | with_reducible apply callQ_i | with_reducible apply callC_i); (focus (first | assumption | ((first | with_reducible apply cipI_ac | with_reducible apply newEngine_ac h0 h1 _ _ hp) <;> (first | assumption | rfl | (simp (disch := omega) only [go_sem]; first | done | rfl) | omega | decide | (simp; done))) | (with_reducible apply keysI_ac <;> (first | assumption | (refine look_old ?_ _; assumption) | rfl | (simp (disch := omega) only [go_sem]; first | done | rfl) | omega | decide | (simp; done))))); (try (focus (exact NL.mk rfl))); (try exact WP_au)) | refine RB_take false [3] 7 (by rfl) (by kernel_rfl) (by decide) (by decide +kernel) ?_ | refine RB_take true [0, 2, 4] 4 (by rfl) (by kernel_rfl) (by decide) (by decide +kernel) ?_ | refine RB_keepC 1 _ (by rfl) (by decide +kernel) ?_ | refine RB_exec 5 _ (by rfl) (by decide +kernel) (by decide +kernel) ?_ | refine RB_take false [6, 7] 0 (by rfl) (by kernel_rfl) (by decide) (by decide +kernel) ?_ | refine RB_done (by decide +kernel) ?_); try simp (maxSteps := 1000000) (disch := first | omega | rfl | decide | (simp only [List.length_cons, List.length_nil, List.length_append, LV] <;> omega)) only [go_sem, Nat.reduceAdd, Int.reduceAdd, Int.reduceSub, Int.reduceMul, Bool.not_true, Bool.not_false, hc, Bool.not_true])))) | refine WA_seq ?_ | refine WA_block ?_ | (refine WA_skip ?_; try simp only [go_sem]) | (refine WA_ret ?_; try simp only [go_sem]) | refine WA_ct rfl ?_ | refine WA_cf rfl ?_))
  (exact sR0)
theorem keysOI_ok {m : Int} {n : Nat} {bx mx pl : Nat → UInt8} (hc : cipB m bx mx pl n = true) (hn : n ≤ 20) (y : Nat → UInt8) (h : List Blk) : AC Tryz.prog 6 [.agg (Ci m bx mx pl n).toArray, .agg (Bs 16 y).toArray] h (.tuple #[sl h.length 0 (n + 1) 16, .int .i64 0])
    (h ++ [⟨Bs ((n + 1) * 16) (keysF bx y), true⟩]) := by
  obtain ⟨k, rfl, h0, h1, _, _, hp, _⟩ := cipB_nat hc
  (refine AC_gc [7] (keysOI0_ok hc h0 h1 hp hn y h) (by decide) ?_ ?_ ?_; (focus (repeat (first | exact trivial | (refine And.intro ⟨_, rfl, ?_⟩ ?_; (focus first | (refine Fit_plain ?_; simp only [go_sem, List.all_append, List.all_cons, List.all_nil, Bool.and_self]; done) | exact Fit_nil rfl | exact Fit_dead | (refine Fit_eq ?_ ?_; (focus simp only [go_sem, List.all_append, List.all_cons, List.all_nil, Bool.and_self]); (focus (first | rfl | (simp only [Int.natCast_add, Int.natCast_one, Int.natCast_zero, Int.cast_ofNat_Int, Nat.add_zero]; done) | (simp only [Int.natCast_add, Int.natCast_one, Int.natCast_zero, Int.cast_ofNat_Int, Nat.add_zero]; rfl))))))))); (focus first | (refine renV_sl ?_; first | (rw [rhoF_new0]; rfl) | (rw [rhoF_new]; rfl) | (rw [rhoF_old]; first | assumption | omega)) | (refine renV_pt ?_; first | (rw [rhoF_new0]; rfl) | (rw [rhoF_new]; rfl) | (rw [rhoF_old]; first | assumption | omega)) | (refine renV_two ?_ ?_; (focus first | (refine ren1_sl ?_; first | (rw [rhoF_new0]; rfl) | (rw [rhoF_new]; rfl) | (rw [rhoF_old]; first | assumption | omega)) | rfl); (focus rfl)) | rfl | (refine (renV_plain ?_).symm; first | rfl | (refine plain_agg ?_; simp only [go_sem, List.all_append, List.all_cons, List.all_nil, Bool.and_self]; done))); (focus first | (simp only [wfV, wf1, wfC, List.length_append, List.length_cons, List.length_nil]; omega) | (refine wfV_two ?_ ?_; (focus simp only [wf1, wfC, List.length_append, List.length_cons, List.length_nil]; omega); (focus trivial)) | (refine plainV_wf ?_; (focus first | rfl | (refine plain_agg ?_; simp only [go_sem, List.all_append, List.all_cons, List.all_nil, Bool.and_self]; done)); done)))

end Go.Proofs.YtkdpjkpedklbpaaGreatDoor
/- Matrices of texts: both sides. -/
namespace Go.Proofs.YtkdpjkpedklbpaaGreatDoor
set_option linter.unusedSimpArgs false
set_option linter.unusedVariables false
set_option maxRecDepth 20000
set_option maxHeartbeats 1000000
open Go.Abs

/-- The i-th piece of a text. -/
def pcF (s : ByteArray) (i : Nat) : ByteArray := (spA s 47).getD i ⟨#[]⟩
theorem pc_get {s : ByteArray} {q : Nat} (h : q < (spA s 47).length) : (Ss (spA s 47))[q]? = some (.string (pcF s q)) := Ss_get h
theorem pcF_le {s : ByteArray} {i : Nat} : (pcF s i).size ≤ s.size := by
  unfold pcF
  rw [List.getD_eq_getElem?_getD]
  cases h : (spA s 47)[i]? with
  | none => exact Nat.zero_le _
  | some p => exact spA_piece (List.mem_of_getElem? h)
attribute [local irreducible] ch unV pcF spA hexOk
end Go.Proofs.YtkdpjkpedklbpaaGreatDoor
