/- Fields: what the program and the reference reckon. -/
import Derived.Test.YtalbdgkbinndlaaDoorAbsSh
import Derived.Test.YtalbdgkbinndlaaDoorW1
import Derived.Test.YtalbdgkbinndlaaDoorAbsS
import Derived.Test.YtalbdgkbinndlaaDoorAbsT
import Derived.Test.YtalbdgkbinndlaaDoorF1
namespace Go.Proofs.YtalbdgkbinndlaaDoor
set_option linter.unusedSimpArgs false
set_option linter.unusedVariables false
set_option maxRecDepth 20000
set_option maxHeartbeats 1000000
open Go.Abs

def inR (n a b : Int) : Bool := decide (a ≤ n) && decide (n ≤ b)

theorem inS_ac (n a b : Int) (h : List Blk) : AC Tryd.prog 56 [.int .i64 n, .int .i64 a, .int .i64 b] h (.bool (inR n a b)) h := by
  cases h1 : decide (a ≤ n) <;>
  · (refine AC_begin (fun _ _ => Tryd.call56 _ _) Tryd.func56 rfl Tryd.ntmps56 Tryd.results56 (fun hwf => ?_); simp only [List.length_cons, List.length_nil, Nat.reduceAdd, Nat.reduceSub, List.replicate, List.cons_append, List.nil_append])
    (refine sN (And.intro @h1 (@yieldA_at 3 10)) ?_)
    (exact sR (And.intro @inR.eq_1 (And.intro @h1 (And.intro @Bool.true_and @Bool.false_and))))

theorem inI_ac (n a b : Int) (h : List Blk) : AC Tryd.prog 51 [.int .i64 n, .int .i64 a, .int .i64 b] h (.bool (inR n a b)) h := by
  cases h1 : decide (a ≤ n) <;>
  · (refine AC_begin (fun _ _ => Tryd.call51 _ _) Tryd.func51 rfl Tryd.ntmps51 Tryd.results51 (fun hwf => ?_); simp only [List.length_cons, List.length_nil, Nat.reduceAdd, Nat.reduceSub, List.replicate, List.cons_append, List.nil_append])
    (refine sN (And.intro @h1 (@yieldA_at 3 10)) ?_)
    (exact sR (And.intro @inR.eq_1 (And.intro @h1 (And.intro @Bool.true_and @Bool.false_and))))

theorem timesS_ac {m : Nat} (h0 : 256 ≤ m) (h1 : m < 512) (a b : UInt8) (h : List Blk) : AC Tryd.prog 74 [.int .i64 m, B a, B b] h (B (UInt8.ofNat (mulN m a.toNat b.toNat))) h := by
  have hb8 := u8_lt b
  have ha8 := u8_lt a
  (refine AC_begin (fun _ _ => Tryd.call74 _ _) Tryd.func74 rfl Tryd.ntmps74 Tryd.results74 (fun hwf => ?_); simp only [List.length_cons, List.length_nil, Nat.reduceAdd, Nat.reduceSub, List.replicate, List.cons_append, List.nil_append])
  (refine sN0 ?_)
  refine WA_forH (fun k => [(7, .int .i64 ((mulP m a.toNat b.toNat k : Nat))), (8, .int .i64 ((dblN m a.toNat k : Nat))), (9, .int .i64 ((b.toNat >>> k : Nat))), (14, J), (15, J), (16, J), (17, J), (18, J), (19, J), (20, J), (21, J), (22, J), (23, J), (24, J), (25, J), (26, J), (27, J), (28, J), (29, J), (30, J)]) (fun k => h) (blen b.toNat) ?_ ?_ ?_ <;> (try simp only [patT_cons, patT_nil, patL_cons, patL_nil, list_set_zero, list_set_succ, blk_set_zero, blk_set_succ])
  · (refine Drop_slots (by first | exact Nat.le_refl _ | simp) ?_; focus ((try simp only [JL_same, JL_J, JL_nil, Int.reduceAdd, Nat.sub_sub, Int.natCast_add, Int.natCast_one, Int.natCast_zero, Int.cast_ofNat_Int, Nat.add_zero, Bool.false_eq_true, if_false, if_true, dblN, mulP, Nat.shiftRight_zero]); (try exact JL_refl _)))
  · intro k hk
    have hp := blen_pos hk
    have hs := Nat.shiftRight_le b.toNat k
    have hs' := Nat.shiftRight_le b.toNat (k + 1)
    have hm := mulP_lt h0 h1 (b := b.toNat) ha8 k
    have hd := dblN_lt h0 h1 ha8 k
    have hw := wrap_N (n := b.toNat >>> (k+1)) (Nat.lt_of_le_of_lt hs' (by omega))
    cases hb : b.toNat.testBit k <;> cases hc : decide (256 ≤ dblN m a.toNat k * 2)
    · (refine sN (And.intro @hb (And.intro @hc @hw)) ?_)
      (refine Drop_slots (by first | exact Nat.le_refl _ | simp) ?_; focus ((try simp only [JL_same, JL_J, JL_nil, Int.reduceAdd, Nat.sub_sub, Int.natCast_add, Int.natCast_one, Int.natCast_zero, Int.cast_ofNat_Int, Nat.add_zero, Bool.false_eq_true, if_false, if_true, mulP_f hb, dblN_f (of_decide_eq_false hc)]); (try exact JL_refl _)))
    · (refine sN (And.intro @hb (And.intro @hc @hw)) ?_)
      (refine Drop_slots (by first | exact Nat.le_refl _ | simp) ?_; focus ((try simp only [JL_same, JL_J, JL_nil, Int.reduceAdd, Nat.sub_sub, Int.natCast_add, Int.natCast_one, Int.natCast_zero, Int.cast_ofNat_Int, Nat.add_zero, Bool.false_eq_true, if_false, if_true, mulP_f hb, dblN_t (of_decide_eq_true hc)]); (try exact JL_refl _)))
    · (refine sN (And.intro @hb (And.intro @hc @hw)) ?_)
      (refine Drop_slots (by first | exact Nat.le_refl _ | simp) ?_; focus ((try simp only [JL_same, JL_J, JL_nil, Int.reduceAdd, Nat.sub_sub, Int.natCast_add, Int.natCast_one, Int.natCast_zero, Int.cast_ofNat_Int, Nat.add_zero, Bool.false_eq_true, if_false, if_true, mulP_t hb, dblN_f (of_decide_eq_false hc)]); (try exact JL_refl _)))
    · (refine sN (And.intro @hb (And.intro @hc @hw)) ?_)
      (refine Drop_slots (by first | exact Nat.le_refl _ | simp) ?_; focus ((try simp only [JL_same, JL_J, JL_nil, Int.reduceAdd, Nat.sub_sub, Int.natCast_add, Int.natCast_one, Int.natCast_zero, Int.cast_ofNat_Int, Nat.add_zero, Bool.false_eq_true, if_false, if_true, mulP_t hb, dblN_t (of_decide_eq_true hc)]); (try exact JL_refl _)))
  · (repeat (first | ((first | (refine And.intro ?_ ?_; focus (first | exact plain_agg (by simp only [go_sem]) | exact plain_two (by first | exact plain_agg (by simp only [go_sem]) | rfl) rfl | rfl)) | refine WA_seq (WA_region ?_) | refine WA_region ?_ | refine WA_exit ?_); try simp (maxSteps := 1000000) (disch := first | omega | rfl | decide | (simp only [List.length_cons, List.length_nil, List.length_append, Bs_length, Is_length, Vs_length, Bl_length, Il_length] <;> omega)) only [go_sem, Nat.reduceAdd, Int.reduceAdd, Int.reduceSub, Int.reduceMul, Bool.not_true, Bool.not_false, blen_done, mulN_blen hb8]) | refine WA_seq ?_ | refine WA_block ?_ | (refine WA_skip ?_; try simp only [go_sem]) | (refine WA_ret ?_; try simp only [go_sem]) | (refine WA_cond_t rfl ?_ ?_; focus (first | with_reducible rfl | with_reducible exact beq_self_eq_true _ | exact decide_eq_true (by omega) | exact beq_t (by omega) | exact bne_t (by omega) | assumption)) | (refine WA_cond_f rfl ?_ ?_; focus (first | with_reducible rfl | with_reducible exact bne_self_eq_false _ | exact decide_eq_false (by omega) | exact beq_f (by omega) | exact bne_f (by omega) | assumption))))
    (exact sR0)

theorem rest8_ac {m : Nat} (h0 : 256 ≤ m) (h1 : m < 512) {a : Nat} (ha : a < 2 ^ 16) (h : List Blk) : AC Tryd.prog 52 [.int .i64 a, .int .i64 m, .int .i64 8] h (.int .i64 (restN m 8 a)) h := by
  (refine AC_begin (fun _ _ => Tryd.call52 _ _) Tryd.func52 rfl Tryd.ntmps52 Tryd.results52 (fun hwf => ?_); simp only [List.length_cons, List.length_nil, Nat.reduceAdd, Nat.reduceSub, List.replicate, List.cons_append, List.nil_append])
  (refine sN0 ?_)
  refine WA_forH (fun k => [(0, .int .i64 ((restP m 8 a k : Nat))), (7, .int .i64 (15 - k)), (8, J), (9, J), (10, J), (11, J), (12, J), (13, J), (14, J), (15, J), (16, J), (17, J), (18, J), (19, J), (20, J), (21, J), (22, J), (23, J), (24, J)]) (fun k => h) (8) ?_ ?_ ?_ <;> (try simp only [patT_cons, patT_nil, patL_cons, patL_nil, list_set_zero, list_set_succ, blk_set_zero, blk_set_succ])
  · (refine Drop_slots (by first | exact Nat.le_refl _ | simp) ?_; focus ((try simp only [JL_same, JL_J, JL_nil, Int.reduceAdd, Nat.sub_sub, Int.natCast_add, Int.natCast_one, Int.natCast_zero, Int.cast_ofNat_Int, Nat.add_zero, Bool.false_eq_true, if_false, if_true, restP]); (try exact JL_refl _)))
  · intro k hk
    have hr : restP m 8 a k < 65536 := Nat.lt_of_lt_of_le (restP_lt h0 h1 ha k (by omega)) (show 2 ^ (16 - k) ≤ 2 ^ 16 from Nat.pow_le_pow_right (by omega) (by omega))
    have hs := Nat.shiftRight_le (restP m 8 a k) (15 - k)
    have hl : m <<< (15 - k - 8) < 65536 := by
      rw [Nat.shiftLeft_eq]
      have h2 : 2 ^ (15 - k - 8) ≤ 2 ^ 7 := Nat.pow_le_pow_right (by omega) (by omega)
      calc m * 2 ^ (15 - k - 8) ≤ m * 2 ^ 7 := Nat.mul_le_mul_left _ h2
        _ < 65536 := by omega
    cases hb : (restP m 8 a k).testBit (15 - k)
    · (refine sN @hb ?_)
      (exact sS (restP_f hb))
    · have hw := wrap_N (n := m <<< (15 - k - 8)) (by omega)
      have hy := bits_xor_N (a := restP m 8 a k) (b := m <<< (15 - k - 8)) (by omega) (by omega)
      (refine sN (And.intro @hb (And.intro @hw @hy)) ?_)
      (exact sS (restP_t hb))
  · (refine sN0 ?_)
    (exact sR @restN.eq_1)

theorem timesI_ac {m : Nat} (h0 : 256 ≤ m) (h1 : m < 512) (a b : UInt8) (h : List Blk) : AC Tryd.prog 55 [.int .i64 m, B a, B b] h (B (UInt8.ofNat (mulN m a.toNat b.toNat))) h := by
  have hb8 := u8_lt b
  have ha8 := u8_lt a
  (refine AC_begin (fun _ _ => Tryd.call55 _ _) Tryd.func55 rfl Tryd.ntmps55 Tryd.results55 (fun hwf => ?_); simp only [List.length_cons, List.length_nil, Nat.reduceAdd, Nat.reduceSub, List.replicate, List.cons_append, List.nil_append])
  (refine sN0 ?_)
  refine WA_forH (fun k => [(7, .int .i64 ((clP a.toNat b.toNat k : Nat))), (8, J), (9, .int .i64 k), (10, J), (11, J), (12, J), (13, J), (14, J), (15, J), (16, J), (17, J), (18, J), (19, J), (20, J), (21, J), (22, J), (23, J)]) (fun k => h) (8) ?_ ?_ ?_ <;> (try simp only [patT_cons, patT_nil, patL_cons, patL_nil, list_set_zero, list_set_succ, blk_set_zero, blk_set_succ])
  · (refine Drop_slots (by first | exact Nat.le_refl _ | simp) ?_; focus ((try simp only [JL_same, JL_J, JL_nil, Int.reduceAdd, Nat.sub_sub, Int.natCast_add, Int.natCast_one, Int.natCast_zero, Int.cast_ofNat_Int, Nat.add_zero, Bool.false_eq_true, if_false, if_true, clP]); (try exact JL_refl _)))
  · intro k hk
    have hr := clP_lt ha8 (b := b.toNat) k (by omega)
    have hl : a.toNat <<< k < 65536 := by
      rw [Nat.shiftLeft_eq]
      have h2 : 2 ^ k ≤ 2 ^ 8 := Nat.pow_le_pow_right (by omega) (by omega)
      calc a.toNat * 2 ^ k ≤ a.toNat * 2 ^ 8 := Nat.mul_le_mul_left _ h2
        _ < 65536 := by omega
    cases hb : b.toNat.testBit k
    · (refine sN (And.intro @hb @bit_B) ?_)
      (refine Drop_slots (by first | exact Nat.le_refl _ | simp) ?_; focus ((try simp only [JL_same, JL_J, JL_nil, Int.reduceAdd, Nat.sub_sub, Int.natCast_add, Int.natCast_one, Int.natCast_zero, Int.cast_ofNat_Int, Nat.add_zero, Bool.false_eq_true, if_false, if_true, clP_f hb]); (try exact JL_refl _)))
    · have hw := wrap_N (n := a.toNat <<< k) (by omega)
      have hy := bits_xor_N (a := clP a.toNat b.toNat k) (b := a.toNat <<< k) (by omega) (by omega)
      (refine sN (And.intro @hb (And.intro @bit_B (And.intro @hw @hy))) ?_)
      (refine Drop_slots (by first | exact Nat.le_refl _ | simp) ?_; focus ((try simp only [JL_same, JL_J, JL_nil, Int.reduceAdd, Nat.sub_sub, Int.natCast_add, Int.natCast_one, Int.natCast_zero, Int.cast_ofNat_Int, Nat.add_zero, Bool.false_eq_true, if_false, if_true, clP_t hb]); (try exact JL_refl _)))
  · have hc := clP_lt ha8 (b := b.toNat) 8 (by omega)
    (refine sW0 (rest8_ac h0 h1 (a := clP a.toNat b.toNat 8) (by omega)) ?_)
    ((first | refine ret_none (by first | exact .inr rfl | exact .inl rfl) ?_ | refine ret_same (by first | exact .inr rfl | exact .inl rfl) ?_ (by first | rfl | exact plain_agg (by simp only [go_sem]) | exact plain_two (by first | exact plain_agg (by simp only [go_sem]) | rfl) (by first | exact plain_agg (by simp only [go_sem]) | rfl)) | refine ret_full (by first | exact .inr rfl | exact .inl rfl) (by simp) ?_); simp (maxSteps := 1000000) (disch := first | omega | rfl | decide | (simp only [List.length_cons, List.length_nil, List.length_append, Bs_length, Is_length, Vs_length, Bl_length, Il_length] <;> omega)) only [go_sem, Nat.reduceAdd, Int.reduceAdd, Int.reduceSub, Int.reduceMul, Bool.not_true, Bool.not_false, restN, mulN_cl h0 h1 ha8]; try rfl)

theorem length_ac {n : Nat} (hn : n < 9223372036854775808) (h : List Blk) : AC Tryd.prog 73 [.int .i64 n] h (.int .i64 (blen n)) h := by
  (refine AC_begin (fun _ _ => Tryd.call73 _ _) Tryd.func73 rfl Tryd.ntmps73 Tryd.results73 (fun hwf => ?_); simp only [List.length_cons, List.length_nil, Nat.reduceAdd, Nat.reduceSub, List.replicate, List.cons_append, List.nil_append])
  (refine sN0 ?_)
  refine WA_forH (fun k => [(0, .int .i64 ((n >>> k : Nat))), (3, .int .i64 k), (4, J), (5, J), (6, J), (7, J), (8, J), (9, J)]) (fun k => h) (blen n) ?_ ?_ ?_ <;> (try simp only [patT_cons, patT_nil, patL_cons, patL_nil, list_set_zero, list_set_succ, blk_set_zero, blk_set_succ])
  · (exact sS @Nat.shiftRight_zero)
  · intro k hk
    have hp := blen_pos hk
    have hs := Nat.shiftRight_le n k
    have hs' := Nat.shiftRight_le n (k + 1)
    have hb := blen_lt (k := 63) (n := n) (by omega)
    have hw := wrap_N (n := n >>> (k+1)) (Nat.lt_of_le_of_lt hs' (by omega))
    (refine sN @hw ?_)
    (exact sS0)
  · (refine sN @blen_done ?_)
    (exact sR0)

theorem restS_ac {m d : Nat} (h0 : 256 ≤ m) (h1 : m < 512) (h2 : 2 ≤ d) (h3 : d < 32) (h : List Blk) : AC Tryd.prog 57 [.int .i64 m, .int .i64 d] h (.int .i64 (restN d (blen d - 1) m)) h := by
  have hbm : blen m ≤ 9 := blen_lt (by omega)
  have hend := divC_end (b := d) (by omega) 16 m (by omega)
  (refine AC_begin (fun _ _ => Tryd.call57 _ _) Tryd.func57 rfl Tryd.ntmps57 Tryd.results57 (fun hwf => ?_); simp only [List.length_cons, List.length_nil, Nat.reduceAdd, Nat.reduceSub, List.replicate, List.cons_append, List.nil_append])
  (refine sW0 (And.intro (length_ac (n := d) (by omega)) (length_ac (n := m) (by omega))) ?_)
  refine WA_forH (fun k => [(0, .int .i64 ((divS d m k : Nat))), (6, .int .i64 ((blen (divS d m k) : Nat))), (11, J), (12, J), (13, J), (14, J), (15, J), (16, J), (17, J), (18, J), (19, J), (20, J), (21, J), (22, J), (23, J)]) (fun k => h) (divC d 16 m) ?_ ?_ ?_ <;> (try simp only [patT_cons, patT_nil, patL_cons, patL_nil, list_set_zero, list_set_succ, blk_set_zero, blk_set_succ])
  · (refine Drop_slots (by first | exact Nat.le_refl _ | simp) ?_; focus ((try simp only [JL_same, JL_J, JL_nil, Int.reduceAdd, Nat.sub_sub, Int.natCast_add, Int.natCast_one, Int.natCast_zero, Int.cast_ofNat_Int, Nat.add_zero, Bool.false_eq_true, if_false, if_true, divS]); (try exact JL_refl _)))
  · intro k hk
    have hg := divC_go _ _ _ hk
    have hl := divS_lt (b := d) (by omega) (f := 16) (a := m) k (by omega)
    have hl' := divS_lt (b := d) (by omega) (f := 16) (a := m) (k + 1) (by omega)
    have hx : divS d m k < 2 ^ 9 := lt_of_blen (by omega)
    have hx' : divS d m (k + 1) < 2 ^ 9 := lt_of_blen (by omega)
    have hs := shl5_lt (m := d) (s := blen (divS d m k) - blen d) (by omega) (by omega)
    have hw := wrap_N (n := d <<< (blen (divS d m k) - blen d)) (by omega)
    have hy := bits_xor_N (a := divS d m k) (b := d <<< (blen (divS d m k) - blen d)) (by omega) (by omega)
    have he : divS d m k ^^^ d <<< (blen (divS d m k) - blen d) = divS d m (k + 1) := rfl
    (refine sW (And.intro @hw (And.intro @hy @he)) (length_ac (n := divS d m (k + 1)) (by omega)) ?_)
    (exact sS0)
  · have hn : decide (blen d ≤ blen (divS d m (divC d 16 m))) = false := decide_eq_false (by omega)
    (refine sN @hn ?_)
    ((first | refine ret_none (by first | exact .inr rfl | exact .inl rfl) ?_ | refine ret_same (by first | exact .inr rfl | exact .inl rfl) ?_ (by first | rfl | exact plain_agg (by simp only [go_sem]) | exact plain_two (by first | exact plain_agg (by simp only [go_sem]) | rfl) (by first | exact plain_agg (by simp only [go_sem]) | rfl)) | refine ret_full (by first | exact .inr rfl | exact .inl rfl) (by simp) ?_); simp (maxSteps := 1000000) (disch := first | omega | rfl | decide | (simp only [List.length_cons, List.length_nil, List.length_append, Bs_length, Is_length, Vs_length, Bl_length, Il_length] <;> omega)) only [go_sem, Nat.reduceAdd, Int.reduceAdd, Int.reduceSub, Int.reduceMul, Bool.not_true, Bool.not_false, hend.2, ← div_rest h0 h1 h2 h3, divN]; try rfl)

theorem restI_ac {m d g : Nat} (h1 : m < 512) (h3 : d < 2 ^ 5) (hg : 1 ≤ g) (hg4 : g ≤ 4) (h : List Blk) : AC Tryd.prog 52 [.int .i64 m, .int .i64 d, .int .i64 g] h (.int .i64 (restN d g m)) h := by
  (refine AC_begin (fun _ _ => Tryd.call52 _ _) Tryd.func52 rfl Tryd.ntmps52 Tryd.results52 (fun hwf => ?_); simp only [List.length_cons, List.length_nil, Nat.reduceAdd, Nat.reduceSub, List.replicate, List.cons_append, List.nil_append])
  (refine sN0 ?_)
  refine WA_forH (fun k => [(0, .int .i64 ((restP d g m k : Nat))), (7, .int .i64 (15 - k)), (8, J), (9, J), (10, J), (11, J), (12, J), (13, J), (14, J), (15, J), (16, J), (17, J), (18, J), (19, J), (20, J), (21, J), (22, J), (23, J), (24, J)]) (fun k => h) (16 - g) ?_ ?_ ?_ <;> (try simp only [patT_cons, patT_nil, patL_cons, patL_nil, list_set_zero, list_set_succ, blk_set_zero, blk_set_succ])
  · (refine Drop_slots (by first | exact Nat.le_refl _ | simp) ?_; focus ((try simp only [JL_same, JL_J, JL_nil, Int.reduceAdd, Nat.sub_sub, Int.natCast_add, Int.natCast_one, Int.natCast_zero, Int.cast_ofNat_Int, Nat.add_zero, Bool.false_eq_true, if_false, if_true, restP]); (try exact JL_refl _)))
  · intro k hk
    have hr := restD_lt h3 hg (a := m) (by omega) k
    have hs := Nat.shiftRight_le (restP d g m k) (15 - k)
    have hl := shl5_lt (m := d) (s := 15 - k - g) h3 (by omega)
    cases hb : (restP d g m k).testBit (15 - k)
    · (refine sN @hb ?_)
      (exact sS (restP_f hb))
    · have hw := wrap_N (n := d <<< (15 - k - g)) (by omega)
      have hy := bits_xor_N (a := restP d g m k) (b := d <<< (15 - k - g)) (by omega) (by omega)
      (refine sN (And.intro @hb (And.intro @hw @hy)) ?_)
      (exact sS (restP_t hb))
  · have hn : decide (g ≤ 15 - (16 - g)) = false := decide_eq_false (by omega)
    (refine sN @hn ?_)
    (exact sR @restN.eq_1)

end Go.Proofs.YtalbdgkbinndlaaDoor
