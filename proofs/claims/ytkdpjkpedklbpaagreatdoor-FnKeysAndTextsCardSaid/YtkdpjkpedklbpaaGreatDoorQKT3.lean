/- A part of the proof of FnKeysAndTexts. -/
import Derived.Lib.SplitLaws
import Derived.Lib.Join
import Derived.Lib.Replace
import Derived.Lib.ItoaNum
import Derived.Test.YtkdpjkpedklbpaaGreatDoorQKTH
import Derived.Test.YtkdpjkpedklbpaaGreatDoorQKT0
import Derived.Test.YtkdpjkpedklbpaaGreatDoorQKT1
import Derived.Test.YtkdpjkpedklbpaaGreatDoorQKT2
/- Draws of ciphers that may be spoiled, draws for the law on ciphers. -/
namespace Go.Proofs.YtkdpjkpedklbpaaGreatDoor
set_option linter.unusedSimpArgs false
set_option linter.unusedVariables false
set_option maxRecDepth 20000
set_option maxHeartbeats 1000000
open Go.Abs

theorem pick8_aft {h : List Blk} {b : Nat} {cv : Value} (s : SrcAt h b cv) :
    ∃ (v : UInt8) (h' : List Blk), Aft h h' b cv ∧ AC Tryz.prog 99 [pt b 0, sl h.length 0 3 1] (h ++ [⟨[B 16, B 1, B 255], true⟩]) (B v) h' := by
  have hbl := s.lt
  have a0 := s.more [⟨[B 16, B 1, B 255], true⟩]
  obtain ⟨x, h1, hx, a1, c1⟩ := next_aft a0.src (N := 3) (by omega) (by omega)
  have hL := a1.keep h.length ⟨[B 16, B 1, B 255], true⟩ (by omega) (by simp)
  obtain ⟨v, hv⟩ : ∃ v, ([B 16, B 1, B 255] : List Value)[x]? = some (B v) := by
    match x, hx with
    | 0, _ => exact ⟨16, rfl⟩
    | 1, _ => exact ⟨1, rfl⟩
    | 2, _ => exact ⟨255, rfl⟩
    | n + 3, h => exact absurd h (by omega)
  have hlen := (a0.trans a1).len
  refine ⟨v, h1, a0.trans a1, ?_⟩
  (refine AC_begin (fun _ _ => Tryz.call99 _ _) Tryz.func99 rfl Tryz.ntmps99 Tryz.results99 (fun hwf => ?_); simp only [List.length_cons, List.length_nil, Nat.reduceAdd, Nat.reduceSub, List.replicate, List.cons_append, List.nil_append])
  (refine sW (And.intro @hL @hv) @c1 ?_)
  refine ret_full (by first | exact .inr rfl | exact .inl rfl) (by first | simpa using a1.len | (have := a1.len; simp at this ⊢; omega)) ?_
  simp (maxSteps := 1000000) (disch := first | omega | rfl | decide | (simp only [List.length_cons, List.length_nil, List.length_append, LV] <;> omega)) only [go_sem, Nat.reduceAdd, Int.reduceAdd, Int.reduceSub, Int.reduceMul, Bool.not_true, Bool.not_false]
  try rfl

/-- The first row is the second. -/
def rowM (f : Nat → UInt8) : Nat → UInt8 := fun i => if i < 4 then f (4 + i) else f i
theorem Ci_row01 (m : Int) (bx mx pl : Nat → UInt8) (r : Int) : splice (Ci m bx mx pl r) 257 (Bs 4 fun i => mx (4 + i)) = Ci m bx (rowM mx) pl r := by
  apply List.ext_getElem?
  intro i
  rw [splice_get (by rw [Ci_length, Bs_length]; omega), Bs_length]
  by_cases h : 257 ≤ i ∧ i < 257 + 4
  · rw [if_pos h, Bs_get (by omega)]
    obtain ⟨j, rfl⟩ : ∃ j, i = 257 + j := ⟨i - 257, by omega⟩
    rw [Ci_get2 _ _ _ _ _ (by omega), Nat.add_sub_cancel_left]
    unfold rowM
    rw [if_pos (by omega)]
  · rw [if_neg h]
    by_cases h2 : 257 ≤ i ∧ i < 273
    · obtain ⟨j, rfl⟩ : ∃ j, i = 257 + j := ⟨i - 257, by omega⟩
      rw [Ci_get2 _ _ _ _ _ (by omega), Ci_get2 _ _ _ _ _ (by omega)]
      unfold rowM
      rw [if_neg (by omega)]
    · by_cases h3 : i < 257
      · by_cases h4 : i = 0
        · subst h4; rw [Ci_get0, Ci_get0]
        · obtain ⟨j, rfl⟩ : ∃ j, i = 1 + j := ⟨i - 1, by omega⟩
          rw [Ci_get1 _ _ _ _ _ (by omega), Ci_get1 _ _ _ _ _ (by omega)]
      · by_cases h5 : i < 289
        · obtain ⟨j, rfl⟩ : ∃ j, i = 273 + j := ⟨i - 273, by omega⟩
          rw [Ci_get3 _ _ _ _ _ (by omega), Ci_get3 _ _ _ _ _ (by omega)]
        · by_cases h6 : i = 289
          · subst h6; rw [Ci_get4, Ci_get4]
          · rw [List.getElem?_eq_none (by rw [Ci_length]; omega), List.getElem?_eq_none (by rw [Ci_length]; omega)]
theorem Ci_row01' (m : Int) (bx mx pl : Nat → UInt8) (r : Int) : splice (Ci m bx mx pl r) (257 + 0 * 4) (Bs 4 fun i => mx (4 + i)) = Ci m bx (rowM mx) pl r := Ci_row01 m bx mx pl r
theorem Ci_l261 (m : Int) (bx mx pl : Nat → UInt8) (r : Int) (q : Bool) : loadRow (some ⟨Ci m bx mx pl r, q⟩) 261 4 = some (.agg (Bs 4 fun i => mx (4 + i)).toArray) := Ci_rowin2 m bx mx pl r (j := 4) (m := 4) (by omega) q
theorem Ci_g2 (m : Int) (bx mx pl : Nat → UInt8) (r : Int) : (Ci m bx mx pl r)[2]? = some (B (bx 1)) := Ci_get1 m bx mx pl r (j := 1) (by omega)
theorem Ci_g273 (m : Int) (bx mx pl : Nat → UInt8) (r : Int) : (Ci m bx mx pl r)[273]? = some (B (pl 0)) := Ci_get3 m bx mx pl r (j := 0) (by omega)
theorem Ci_s1 (m : Int) (bx mx pl : Nat → UInt8) (r : Int) (x : UInt8) : (Ci m bx mx pl r).set 1 (B x) = Ci m (upd bx 0 x) mx pl r  := by
  rw [show (1 : Nat) = 1 + 0 from rfl, Ci_cut1, mid_set (n := 256) (by simp [Bs_length]) (Bs_length ..) (by omega), Bs_set, ← Ci_cut1]
theorem Ci_s273 (m : Int) (bx mx pl : Nat → UInt8) (r : Int) (x : UInt8) : (Ci m bx mx pl r).set 273 (B x) = Ci m bx mx (upd pl 0 x) r  := by
  rw [show (273 : Nat) = 273 + 0 from rfl, Ci_cut3, mid_set (n := 16) (by simp [Bs_length]) (Bs_length ..) (by omega), Bs_set, ← Ci_cut3]
theorem Ci_s274 (m : Int) (bx mx pl : Nat → UInt8) (r : Int) (x : UInt8) : (Ci m bx mx pl r).set 274 (B x) = Ci m bx mx (upd pl 1 x) r  := by
  rw [show (274 : Nat) = 273 + 1 from rfl, Ci_cut3, mid_set (n := 16) (by simp [Bs_length]) (Bs_length ..) (by omega), Bs_set, ← Ci_cut3]
set_option maxHeartbeats 8000000 in
theorem l04Spoil_aft {h : List Blk} {b : Nat} {cv : Value} (s : SrcAt h b cv) :
    ∃ (m : Int) (bx mx pl : Nat → UInt8) (r : Int) (h' : List Blk), (-1 ≤ r ∧ r ≤ 1000) ∧ Aft h h' b cv ∧ AC Tryz.prog 60 [pt b 0] h (.agg (Ci m bx mx pl r).toArray) h' := by
  have hbl := s.lt
  have a0 := s.more [⟨Ci 0 zeroF zeroF zeroF 0, true⟩]
  obtain ⟨m, bx, mx, pl, r, h1, hr, a1, c1⟩ := l04Draw_aft a0.src
  have hR1 := a1.keep h.length ⟨Ci 0 zeroF zeroF zeroF 0, true⟩ (by omega) (by simp)
  have a2 := a1.src.more [⟨Ci m bx mx pl r, true⟩]
  obtain ⟨x, h2, hx, a3, c2⟩ := next_aft a2.src (N := 24) (by omega) (by omega)
  have hbc : h1.length ≠ b := by have := a1.src.lt; omega
  have hC := a3.keep h1.length ⟨Ci m bx mx pl r, true⟩ hbc (by simp)
  have hR2 := (a2.trans a3).keep _ _ (by omega) hR1
  have A3 := ((a0.trans a1).trans a2).trans a3
  have l1 := blt hR1
  have hrr : -1 ≤ r ∧ r ≤ 1000 := by omega
  by_cases x0 : x = 0
  · subst x0
    obtain ⟨v, h3, hv, a4, c3⟩ := pickL_aft a3.src [.int .i64 256, .int .i64 511, .int .i64 0, .int .i64 512] (n := 4) rfl rfl (by omega) (by omega)
    have A4 := A3.trans a4
    have hC4 := a4.keep _ _ hbc hC
    have hR4 := a4.keep _ _ (by omega) hR2
    have hR5 := set_at (x := ⟨Ci v bx mx pl r, true⟩) hR4 (show h1.length ≠ h.length by omega)
    have hlen := A4.len
    refine ⟨v, bx, mx, pl, r, (h3.set h1.length ⟨Ci v bx mx pl r, true⟩).set h.length ⟨Ci v bx mx pl r, true⟩, hrr, (A4.set s (by omega) _).set s (Nat.le_refl _) _, ?_⟩
    (refine AC_begin (fun _ _ => Tryz.call60 _ _) Tryz.func60 rfl Tryz.ntmps60 Tryz.results60 (fun hwf => ?_); simp only [List.length_cons, List.length_nil, Nat.reduceAdd, Nat.reduceSub, List.replicate, List.cons_append, List.nil_append])
    (repeat (first | ((first | (refine And.intro ?_ ?_; focus exact PLA) | ((first | with_reducible apply callB_i | with_reducible apply callK_intro | with_reducible apply callQ_i); (focus (first | assumption | ((first | with_reducible apply c1 | with_reducible apply c2 | with_reducible apply c3) <;> (first | assumption | rfl | (simp (disch := omega) only [go_sem]; first | done | rfl) | omega | decide | (simp; done))))); (try exact WP_au)) | refine WA_seq (WA_region ?_) | refine WA_region ?_ | refine WA_exit ?_); try simp (maxSteps := 1000000) (disch := first | omega | rfl | decide | (simp only [List.length_cons, List.length_nil, List.length_append, LV] <;> omega)) only [go_sem, Nat.reduceAdd, Int.reduceAdd, Int.reduceSub, Int.reduceMul, Bool.not_true, Bool.not_false, Ci_splice_all, Ci_row01', Ci_l261, Ci_g2, Ci_g273, Ci_s1, Ci_s273, Ci_s274, beq_self_eq_true, hC4, look_set (blt hC4), List.set_set, hR5]) | refine WA_seq ?_ | refine WA_block ?_ | (refine WA_skip ?_; try simp only [go_sem]) | (refine WA_ret ?_; try simp only [go_sem]) | refine WA_ct rfl ?_ | refine WA_cf rfl ?_))
    refine ret_full (by first | exact .inr rfl | exact .inl rfl) (by simpa using hlen) ?_
    simp (maxSteps := 1000000) (disch := first | omega | rfl | decide | (simp only [List.length_cons, List.length_nil, List.length_append, LV] <;> omega)) only [go_sem, Nat.reduceAdd, Int.reduceAdd, Int.reduceSub, Int.reduceMul, Bool.not_true, Bool.not_false, look_set (blt hR5)]
    try rfl
  have hx0 : (x == 0) = false := by simpa using x0
  by_cases x1 : x = 1
  · subst x1
    have A4 := A3
    have hC4 := hC
    have hR4 := hR2
    have hR5 := set_at (x := ⟨Ci m (upd bx 0 (bx 1)) mx pl r, true⟩) hR4 (show h1.length ≠ h.length by omega)
    have hlen := A4.len
    refine ⟨m, (upd bx 0 (bx 1)), mx, pl, r, (h2.set h1.length ⟨Ci m (upd bx 0 (bx 1)) mx pl r, true⟩).set h.length ⟨Ci m (upd bx 0 (bx 1)) mx pl r, true⟩, hrr, (A4.set s (by omega) _).set s (Nat.le_refl _) _, ?_⟩
    (refine AC_begin (fun _ _ => Tryz.call60 _ _) Tryz.func60 rfl Tryz.ntmps60 Tryz.results60 (fun hwf => ?_); simp only [List.length_cons, List.length_nil, Nat.reduceAdd, Nat.reduceSub, List.replicate, List.cons_append, List.nil_append])
    (repeat (first | ((first | (refine And.intro ?_ ?_; focus exact PLA) | ((first | with_reducible apply callB_i | with_reducible apply callK_intro | with_reducible apply callQ_i); (focus (first | assumption | ((first | with_reducible apply c1 | with_reducible apply c2) <;> (first | assumption | rfl | (simp (disch := omega) only [go_sem]; first | done | rfl) | omega | decide | (simp; done))))); (try exact WP_au)) | refine WA_seq (WA_region ?_) | refine WA_region ?_ | refine WA_exit ?_); try simp (maxSteps := 1000000) (disch := first | omega | rfl | decide | (simp only [List.length_cons, List.length_nil, List.length_append, LV] <;> omega)) only [go_sem, Nat.reduceAdd, Int.reduceAdd, Int.reduceSub, Int.reduceMul, Bool.not_true, Bool.not_false, Ci_splice_all, Ci_row01', Ci_l261, Ci_g2, Ci_g273, Ci_s1, Ci_s273, Ci_s274, beq_self_eq_true, show ((1 : Nat) == 0) = false from rfl, hC4, look_set (blt hC4), List.set_set, hR5]) | refine WA_seq ?_ | refine WA_block ?_ | (refine WA_skip ?_; try simp only [go_sem]) | (refine WA_ret ?_; try simp only [go_sem]) | refine WA_ct rfl ?_ | refine WA_cf rfl ?_))
    refine ret_full (by first | exact .inr rfl | exact .inl rfl) (by simpa using hlen) ?_
    simp (maxSteps := 1000000) (disch := first | omega | rfl | decide | (simp only [List.length_cons, List.length_nil, List.length_append, LV] <;> omega)) only [go_sem, Nat.reduceAdd, Int.reduceAdd, Int.reduceSub, Int.reduceMul, Bool.not_true, Bool.not_false, look_set (blt hR5)]
    try rfl
  have hx1 : (x == 1) = false := by simpa using x1
  by_cases x2 : x = 2
  · subst x2
    have A4 := A3
    have hC4 := hC
    have hR4 := hR2
    have hR5 := set_at (x := ⟨Ci m bx (rowM mx) pl r, true⟩) hR4 (show h1.length ≠ h.length by omega)
    have hlen := A4.len
    refine ⟨m, bx, (rowM mx), pl, r, (h2.set h1.length ⟨Ci m bx (rowM mx) pl r, true⟩).set h.length ⟨Ci m bx (rowM mx) pl r, true⟩, hrr, (A4.set s (by omega) _).set s (Nat.le_refl _) _, ?_⟩
    (refine AC_begin (fun _ _ => Tryz.call60 _ _) Tryz.func60 rfl Tryz.ntmps60 Tryz.results60 (fun hwf => ?_); simp only [List.length_cons, List.length_nil, Nat.reduceAdd, Nat.reduceSub, List.replicate, List.cons_append, List.nil_append])
    (repeat (first | ((first | (refine And.intro ?_ ?_; focus exact PLA) | ((first | with_reducible apply callB_i | with_reducible apply callK_intro | with_reducible apply callQ_i); (focus (first | assumption | ((first | with_reducible apply c1 | with_reducible apply c2) <;> (first | assumption | rfl | (simp (disch := omega) only [go_sem]; first | done | rfl) | omega | decide | (simp; done))))); (try exact WP_au)) | refine WA_seq (WA_region ?_) | refine WA_region ?_ | refine WA_exit ?_); try simp (maxSteps := 1000000) (disch := first | omega | rfl | decide | (simp only [List.length_cons, List.length_nil, List.length_append, LV] <;> omega)) only [go_sem, Nat.reduceAdd, Int.reduceAdd, Int.reduceSub, Int.reduceMul, Bool.not_true, Bool.not_false, Ci_splice_all, Ci_row01', Ci_l261, Ci_g2, Ci_g273, Ci_s1, Ci_s273, Ci_s274, beq_self_eq_true, show ((2 : Nat) == 0) = false from rfl, show ((2 : Nat) == 1) = false from rfl, hC4, look_set (blt hC4), List.set_set, hR5, Ci_row01]) | refine WA_seq ?_ | refine WA_block ?_ | (refine WA_skip ?_; try simp only [go_sem]) | (refine WA_ret ?_; try simp only [go_sem]) | refine WA_ct rfl ?_ | refine WA_cf rfl ?_))
    refine ret_full (by first | exact .inr rfl | exact .inl rfl) (by simpa using hlen) ?_
    simp (maxSteps := 1000000) (disch := first | omega | rfl | decide | (simp only [List.length_cons, List.length_nil, List.length_append, LV] <;> omega)) only [go_sem, Nat.reduceAdd, Int.reduceAdd, Int.reduceSub, Int.reduceMul, Bool.not_true, Bool.not_false, look_set (blt hR5)]
    try rfl
  have hx2 : (x == 2) = false := by simpa using x2
  by_cases x3 : x = 3
  · subst x3
    obtain ⟨v, h3, a4, c3⟩ := pick8_aft a3.src
    have A4 := A3.trans a4
    have hC4 := a4.keep _ _ hbc hC
    have hR4 := a4.keep _ _ (by omega) hR2
    have hR5 := set_at (x := ⟨Ci m bx mx (upd (upd pl 0 v) 1 (upd pl 0 v 0)) r, true⟩) hR4 (show h1.length ≠ h.length by omega)
    have hlen := A4.len
    refine ⟨m, bx, mx, (upd (upd pl 0 v) 1 (upd pl 0 v 0)), r, (h3.set h1.length ⟨Ci m bx mx (upd (upd pl 0 v) 1 (upd pl 0 v 0)) r, true⟩).set h.length ⟨Ci m bx mx (upd (upd pl 0 v) 1 (upd pl 0 v 0)) r, true⟩, hrr, (A4.set s (by omega) _).set s (Nat.le_refl _) _, ?_⟩
    (refine AC_begin (fun _ _ => Tryz.call60 _ _) Tryz.func60 rfl Tryz.ntmps60 Tryz.results60 (fun hwf => ?_); simp only [List.length_cons, List.length_nil, Nat.reduceAdd, Nat.reduceSub, List.replicate, List.cons_append, List.nil_append])
    (repeat (first | ((first | (refine And.intro ?_ ?_; focus exact PLA) | ((first | with_reducible apply callB_i | with_reducible apply callK_intro | with_reducible apply callQ_i); (focus (first | assumption | ((first | with_reducible apply c1 | with_reducible apply c2 | with_reducible apply c3) <;> (first | assumption | rfl | (simp (disch := omega) only [go_sem]; first | done | rfl) | omega | decide | (simp; done))))); (try exact WP_au)) | refine WA_seq (WA_region ?_) | refine WA_region ?_ | refine WA_exit ?_); try simp (maxSteps := 1000000) (disch := first | omega | rfl | decide | (simp only [List.length_cons, List.length_nil, List.length_append, LV] <;> omega)) only [go_sem, Nat.reduceAdd, Int.reduceAdd, Int.reduceSub, Int.reduceMul, Bool.not_true, Bool.not_false, Ci_splice_all, Ci_row01', Ci_l261, Ci_g2, Ci_g273, Ci_s1, Ci_s273, Ci_s274, beq_self_eq_true, show ((3 : Nat) == 0) = false from rfl, show ((3 : Nat) == 1) = false from rfl, show ((3 : Nat) == 2) = false from rfl, hC4, look_set (blt hC4), List.set_set, hR5]) | refine WA_seq ?_ | refine WA_block ?_ | (refine WA_skip ?_; try simp only [go_sem]) | (refine WA_ret ?_; try simp only [go_sem]) | refine WA_ct rfl ?_ | refine WA_cf rfl ?_))
    refine ret_full (by first | exact .inr rfl | exact .inl rfl) (by simpa using hlen) ?_
    simp (maxSteps := 1000000) (disch := first | omega | rfl | decide | (simp only [List.length_cons, List.length_nil, List.length_append, LV] <;> omega)) only [go_sem, Nat.reduceAdd, Int.reduceAdd, Int.reduceSub, Int.reduceMul, Bool.not_true, Bool.not_false, look_set (blt hR5)]
    try rfl
  have hx3 : (x == 3) = false := by simpa using x3
  by_cases x4 : x = 4
  · subst x4
    obtain ⟨v, h3, hv, a4, c3⟩ := pickL_aft a3.src [.int .i64 0, .int .i64 21, .int .i64 (-1)] (n := 3) rfl rfl (by omega) (by omega)
    have A4 := A3.trans a4
    have hC4 := a4.keep _ _ hbc hC
    have hR4 := a4.keep _ _ (by omega) hR2
    have hvr : -1 ≤ v ∧ v ≤ 1000 := by
      obtain ⟨i, hi, e⟩ := hv
      match i, hi, e with
      | 0, _, e => cases e; omega
      | 1, _, e => cases e; omega
      | 2, _, e => cases e; omega
      | n + 3, h, _ => exact absurd h (by omega)
    have hR5 := set_at (x := ⟨Ci m bx mx pl v, true⟩) hR4 (show h1.length ≠ h.length by omega)
    have hlen := A4.len
    refine ⟨m, bx, mx, pl, v, (h3.set h1.length ⟨Ci m bx mx pl v, true⟩).set h.length ⟨Ci m bx mx pl v, true⟩, hvr, (A4.set s (by omega) _).set s (Nat.le_refl _) _, ?_⟩
    (refine AC_begin (fun _ _ => Tryz.call60 _ _) Tryz.func60 rfl Tryz.ntmps60 Tryz.results60 (fun hwf => ?_); simp only [List.length_cons, List.length_nil, Nat.reduceAdd, Nat.reduceSub, List.replicate, List.cons_append, List.nil_append])
    (repeat (first | ((first | (refine And.intro ?_ ?_; focus exact PLA) | ((first | with_reducible apply callB_i | with_reducible apply callK_intro | with_reducible apply callQ_i); (focus (first | assumption | ((first | with_reducible apply c1 | with_reducible apply c2 | with_reducible apply c3) <;> (first | assumption | rfl | (simp (disch := omega) only [go_sem]; first | done | rfl) | omega | decide | (simp; done))))); (try exact WP_au)) | refine WA_seq (WA_region ?_) | refine WA_region ?_ | refine WA_exit ?_); try simp (maxSteps := 1000000) (disch := first | omega | rfl | decide | (simp only [List.length_cons, List.length_nil, List.length_append, LV] <;> omega)) only [go_sem, Nat.reduceAdd, Int.reduceAdd, Int.reduceSub, Int.reduceMul, Bool.not_true, Bool.not_false, Ci_splice_all, Ci_row01', Ci_l261, Ci_g2, Ci_g273, Ci_s1, Ci_s273, Ci_s274, beq_self_eq_true, show ((4 : Nat) == 0) = false from rfl, show ((4 : Nat) == 1) = false from rfl, show ((4 : Nat) == 2) = false from rfl, show ((4 : Nat) == 3) = false from rfl, hC4, look_set (blt hC4), List.set_set, hR5]) | refine WA_seq ?_ | refine WA_block ?_ | (refine WA_skip ?_; try simp only [go_sem]) | (refine WA_ret ?_; try simp only [go_sem]) | refine WA_ct rfl ?_ | refine WA_cf rfl ?_))
    refine ret_full (by first | exact .inr rfl | exact .inl rfl) (by simpa using hlen) ?_
    simp (maxSteps := 1000000) (disch := first | omega | rfl | decide | (simp only [List.length_cons, List.length_nil, List.length_append, LV] <;> omega)) only [go_sem, Nat.reduceAdd, Int.reduceAdd, Int.reduceSub, Int.reduceMul, Bool.not_true, Bool.not_false, look_set (blt hR5)]
    try rfl
  have hx4 : (x == 4) = false := by simpa using x4
  have hR5 := set_at (x := ⟨Ci m bx mx pl r, true⟩) hR2 (show h1.length ≠ h.length by omega)
  have hlen := A3.len
  refine ⟨m, bx, mx, pl, r, h2.set h.length ⟨Ci m bx mx pl r, true⟩, hrr, A3.set s (Nat.le_refl _) _, ?_⟩
  (refine AC_begin (fun _ _ => Tryz.call60 _ _) Tryz.func60 rfl Tryz.ntmps60 Tryz.results60 (fun hwf => ?_); simp only [List.length_cons, List.length_nil, Nat.reduceAdd, Nat.reduceSub, List.replicate, List.cons_append, List.nil_append])
  (repeat (first | ((first | (refine And.intro ?_ ?_; focus exact PLA) | ((first | with_reducible apply callB_i | with_reducible apply callK_intro | with_reducible apply callQ_i); (focus (first | assumption | ((first | with_reducible apply c1 | with_reducible apply c2) <;> (first | assumption | rfl | (simp (disch := omega) only [go_sem]; first | done | rfl) | omega | decide | (simp; done))))); (try exact WP_au)) | refine WA_seq (WA_region ?_) | refine WA_region ?_ | refine WA_exit ?_); try simp (maxSteps := 1000000) (disch := first | omega | rfl | decide | (simp only [List.length_cons, List.length_nil, List.length_append, LV] <;> omega)) only [go_sem, Nat.reduceAdd, Int.reduceAdd, Int.reduceSub, Int.reduceMul, Bool.not_true, Bool.not_false, Ci_splice_all, hx0, hx1, hx2, hx3, hx4, hC, hR2]) | refine WA_seq ?_ | refine WA_block ?_ | (refine WA_skip ?_; try simp only [go_sem]) | (refine WA_ret ?_; try simp only [go_sem]) | refine WA_ct rfl ?_ | refine WA_cf rfl ?_))
  refine ret_full (by first | exact .inr rfl | exact .inl rfl) (by simpa using hlen) ?_
  simp (maxSteps := 1000000) (disch := first | omega | rfl | decide | (simp only [List.length_cons, List.length_nil, List.length_append, LV] <;> omega)) only [go_sem, Nat.reduceAdd, Int.reduceAdd, Int.reduceSub, Int.reduceMul, Bool.not_true, Bool.not_false, look_set (blt hR2)]
  try rfl

end Go.Proofs.YtkdpjkpedklbpaaGreatDoor
/- Draws for the law on ciphers. -/
namespace Go.Proofs.YtkdpjkpedklbpaaGreatDoor
set_option linter.unusedSimpArgs false
set_option linter.unusedVariables false
set_option maxRecDepth 20000
set_option maxHeartbeats 1000000
open Go.Abs

def tup4 (a b c d : Option Value) : Option Value :=
  match a, b, c, d with
  | some a, some b, some c, some d => if (!isTup a && (!isTup b && (!isTup c && !isTup d))) = true then some (.tuple #[a, b, c, d]) else none
  | _, _, _, _ => none
@[go_sem] theorem ares_four {P : Program} {s : AS} (r r' r'' r3 : ResultVar) : aresults P [r, r', r'', r3] s = tup4 (ares1 P s r) (ares1 P s r') (ares1 P s r'') (ares1 P s r3) := by
  unfold aresults tup4
  simp only [mapO]
  cases ares1 P s r with
  | none => rfl
  | some a =>
    cases ares1 P s r' with
    | none => rfl
    | some b =>
      cases ares1 P s r'' with
      | none => rfl
      | some c =>
        cases ares1 P s r3 with
        | none => rfl
        | some d => simp [Option.bind, Option.map]
@[go_sem] theorem tup4_some {a b c d : Value} (ha : isTup a = false) (hb : isTup b = false) (hc : isTup c = false) (hd : isTup d = false) : tup4 (some a) (some b) (some c) (some d) = some (.tuple #[a, b, c, d]) := by
  unfold tup4; simp [ha, hb, hc, hd]
theorem Ci_stC (a0 : Int) (a1 a2 a3 : Nat → UInt8) (a4 : Int) (b0 : Int) (b1 b2 b3 : Nat → UInt8) (b4 : Int) {h : List Blk} {b : Nat} : storeRow h b (some ⟨Ci a0 a1 a2 a3 a4, true⟩) 0 290 (Ci b0 b1 b2 b3 b4) = some (J, h.set b ⟨Ci b0 b1 b2 b3 b4, true⟩) := Ci_store _ _ _ _ _ (Ci_length ..)
theorem three_op {h : List Blk} {cv : Value} (c : Cv h cv) : ∃ (m : Int) (bx mx pl y s : Nat → UInt8) (r : Int) (H : List Blk), (-1 ≤ r ∧ r ≤ 1000) ∧ (∃ A, H = h ++ A) ∧ Cv H cv ∧ AC Tryz.prog 24 [cv] h (.tuple #[.agg (Ci m bx mx pl r).toArray, .agg (Bs 16 y).toArray, .agg (Bs 16 s).toArray]) H := by
  obtain ⟨h1, s1, e1, c1⟩ := from_aft (c.app [⟨Ci 0 zeroF zeroF zeroF 0, true⟩, ⟨Bs 16 zeroF, true⟩, ⟨Bs 16 zeroF, true⟩])
  have hlA : (h ++ [(⟨Ci 0 zeroF zeroF zeroF 0, true⟩ : Blk), ⟨Bs 16 zeroF, true⟩, ⟨Bs 16 zeroF, true⟩]).length = h.length + 3 := by simp
  rw [hlA] at s1 c1
  have hl1 := s1.lt
  have hR0 : (h1)[h.length]? = some ⟨Ci 0 zeroF zeroF zeroF 0, true⟩ := by obtain ⟨L, rfl⟩ := e1; simp
  have hO0 : (h1)[h.length + 1]? = some ⟨Bs 16 zeroF, true⟩ := by obtain ⟨L, rfl⟩ := e1; simp
  have hP0 : (h1)[h.length + 2]? = some ⟨Bs 16 zeroF, true⟩ := by obtain ⟨L, rfl⟩ := e1; simp
  obtain ⟨m, bx, mx, pl, r, h2, hr, a2, c2⟩ := l04Spoil_aft s1
  obtain ⟨y, h3, a3, c3⟩ := drawBlock_aft a2.src
  obtain ⟨s, h4, a4, c4⟩ := drawBlock_aft a3.src
  have A := (a2.trans a3).trans a4
  have hR3 := A.keep _ _ (by omega) hR0
  have hO3 := A.keep _ _ (by omega) hO0
  have hP3 := A.keep _ _ (by omega) hP0
  have hO4 := set_at (x := ⟨Ci m bx mx pl r, true⟩) hO3 (show h.length ≠ h.length + 1 by omega)
  have hP4 := set_at (x := ⟨Bs 16 y, true⟩) (set_at (x := ⟨Ci m bx mx pl r, true⟩) hP3 (show h.length ≠ h.length + 2 by omega)) (show h.length + 1 ≠ h.length + 2 by omega)
  have hR5 := set_at (x := ⟨Bs 16 s, true⟩) (set_at (x := ⟨Bs 16 y, true⟩) (look_set (x := ⟨Ci m bx mx pl r, true⟩) (blt hR3)) (show h.length + 1 ≠ h.length by omega)) (show h.length + 2 ≠ h.length by omega)
  have hO5 := set_at (x := ⟨Bs 16 s, true⟩) (look_set (x := ⟨Bs 16 y, true⟩) (blt hO4)) (show h.length + 2 ≠ h.length + 1 by omega)
  have hlen : h.length ≤ h4.length := by have := A.len; omega
  have e : ∃ L, ((h4.set h.length ⟨Ci m bx mx pl r, true⟩).set (h.length + 1) ⟨Bs 16 y, true⟩).set (h.length + 2) ⟨Bs 16 s, true⟩ = h ++ L := setX (setX (setX (A.app h (by omega) (app_more e1)) (Nat.le_refl _) _) (by omega) _) (by omega) _
  refine ⟨m, bx, mx, pl, y, s, r, _, hr, e, cv_app c e, ?_⟩
  (refine AC_begin (fun _ _ => Tryz.call24 _ _) Tryz.func24 rfl Tryz.ntmps24 Tryz.results24 (fun hwf => ?_); simp only [List.length_cons, List.length_nil, Nat.reduceAdd, Nat.reduceSub, List.replicate, List.cons_append, List.nil_append])
  (refine sW (And.intro @Ci_stC (And.intro @Ci_splice_all (And.intro @hR3 (And.intro @hO3 (And.intro @hP3 (And.intro @hO4 @hP4)))))) (And.intro @c1 (And.intro @c2 (And.intro @c3 @c4))) ?_)
  refine ret_full (by first | exact .inr rfl | exact .inl rfl) (by simpa using hlen) ?_
  simp (maxSteps := 1000000) (disch := first | omega | rfl | decide | (simp only [List.length_cons, List.length_nil, List.length_append, LV] <;> omega)) only [go_sem, Nat.reduceAdd, Int.reduceAdd, Int.reduceSub, Int.reduceMul, Bool.not_true, Bool.not_false, hR5, hO5, look_set (blt hP4)]
  try rfl

theorem Cd.but {M : List Blk} {b n : Nat} {cv : Value} {f : Nat → UInt8} (c : Cd M b cv n f) : Cd (roBut b M) b cv n f := by
  cases c with
  | nil => exact .nil f
  | sl _ hb hne =>
    refine .sl (rc := false) f ?_ hne
    unfold roBut
    rw [List.getElem?_set_ne hne.symm]
    exact ro_of hb
theorem Cd.unbut {M : List Blk} {b n : Nat} {cv : Value} {f : Nat → UInt8} (c : Cd (roBut b M) b cv n f) : Cd M b cv n f := by
  cases c with
  | nil => exact .nil f
  | @sl _ bc _ rc hb hne =>
    rcases roBut_get hb with ⟨_, k', h1, h2, _⟩ | ⟨h1, _⟩
    · obtain ⟨cs, r⟩ := k'
      simp only at h2
      subst h2
      exact .sl f h1 hne
    · exact absurd h1 hne
theorem next_N {M : List Blk} {b : Nat} {cv : Value} (s : SrcAt M b cv) {N : Nat} (hN : 0 < N) (hN2 : N ≤ 1125899906842624) :
    ∃ (x : Nat) (k k' : Blk) (M' : List Blk), x < N ∧ M[b]? = some k ∧ k.rw = true ∧ M' = M.set b k' ∧ Aft M M' b cv ∧ AC Tryz.prog 33 [pt b 0, .int .i64 N] (roBut b M) (.int .i64 x) ((roBut b M).set b k') := by
  obtain ⟨k, hb, a, hs, n, f, e, h1, h2, c⟩ := s
  obtain ⟨x, k', hx, ⟨a', hs', n', f', e', h1', h2', c'⟩, hc⟩ := next_ex (roBut_here hb) ⟨a, hs, n, f, e, h1, h2, c.but⟩ hN hN2
  exact ⟨x, k, k', _, hx, hb, by rw [e], rfl, aft_set (blt hb) ⟨a', hs', n', f', e', h1', h2', c'.unbut⟩, hc⟩

set_option maxHeartbeats 16000000 in
theorem drEsh_op {h : List Blk} {cv : Value} (c : Cv h cv) : ∃ (m : Int) (bx mx pl y s : Nat → UInt8) (r n : Int) (H : List Blk), (-1 ≤ r ∧ r ≤ 1000) ∧ (∃ A, H = h ++ A) ∧ Cv H cv ∧ AC Tryz.prog 39 [cv] h (.tuple #[.agg (Ci m bx mx pl r).toArray, .agg (Bs 16 y).toArray, .agg (Bs 16 s).toArray, .int .i64 n]) H := by
  obtain ⟨h1, s1, e1, c1⟩ := from_aft (c.app [⟨Ci 0 zeroF zeroF zeroF 0, true⟩, ⟨Bs 16 zeroF, true⟩, ⟨Bs 16 zeroF, true⟩])
  have hlA : (h ++ [(⟨Ci 0 zeroF zeroF zeroF 0, true⟩ : Blk), ⟨Bs 16 zeroF, true⟩, ⟨Bs 16 zeroF, true⟩]).length = h.length + 3 := by simp
  rw [hlA] at s1 c1
  have hl1 := s1.lt
  have hR0 : (h1)[h.length]? = some ⟨Ci 0 zeroF zeroF zeroF 0, true⟩ := by obtain ⟨L, rfl⟩ := e1; simp
  have hO0 : (h1)[h.length + 1]? = some ⟨Bs 16 zeroF, true⟩ := by obtain ⟨L, rfl⟩ := e1; simp
  have hP0 : (h1)[h.length + 2]? = some ⟨Bs 16 zeroF, true⟩ := by obtain ⟨L, rfl⟩ := e1; simp
  have v1 : Cv h1 cv := cv_app c (app_more e1)
  obtain ⟨m, bx, mx, pl, y, s, r, h2, hr, e2, v2, c2⟩ := three_op v1
  have a2 : Aft h1 h2 (h.length + 3) cv := by obtain ⟨L, rfl⟩ := e2; exact s1.more L
  have a3 := a2.src.more [⟨Ci m bx mx pl r, true⟩, ⟨Bs 16 y, true⟩, ⟨Bs 16 s, true⟩]
  have l2 := a2.src.lt
  obtain ⟨N, hN⟩ : ∃ N : Nat, (if r + 1 > 1 then r + 1 else 1) = (N : Int) ∧ 0 < N ∧ N ≤ 1001 := by
    refine ⟨(if r + 1 > 1 then r + 1 else 1).toNat, ?_, ?_, ?_⟩ <;> split <;> omega
  obtain ⟨hN1, hN2, hN3⟩ := hN
  have hN1' : (if 1 < r + 1 then r + 1 else 1) = (N : Int) := hN1
  obtain ⟨x, k4, k4', h4, hx, hb4, hr4, g4, a4, c4⟩ := next_N a3.src (N := N) hN2 (by omega)
  obtain ⟨z, k5, k5', h5, hz, hb5, hr5, g5, a5, c5⟩ := next_N a4.src (N := 24) (by omega) (by omega)
  have A := ((a2.trans a3).trans a4).trans a5
  have w1 : IntKind.i64.wrap (r + 1) = r + 1 := wrap_i64 (by omega) (by omega)
  have w2 : IntKind.i64.wrap ((x : Int) - ((z / 23 : Nat) : Int)) = (x : Int) - ((z / 23 : Nat) : Int) := wrap_i64 (by omega) (by omega)
  have kc : (h2 ++ ([⟨Ci m bx mx pl r, true⟩, ⟨Bs 16 y, true⟩, ⟨Bs 16 s, true⟩] : List Blk))[h2.length]? = some ⟨Ci m bx mx pl r, true⟩ := by simp
  have ky : (h2 ++ ([⟨Ci m bx mx pl r, true⟩, ⟨Bs 16 y, true⟩, ⟨Bs 16 s, true⟩] : List Blk))[h2.length + 1]? = some ⟨Bs 16 y, true⟩ := by simp
  have ks : (h2 ++ ([⟨Ci m bx mx pl r, true⟩, ⟨Bs 16 y, true⟩, ⟨Bs 16 s, true⟩] : List Blk))[h2.length + 2]? = some ⟨Bs 16 s, true⟩ := by simp
  have q0 := set_at (x := dead) (set_at (x := dead) (set_at (x := dead) kc (show h.length ≠ h2.length by omega)) (show h.length + 1 ≠ h2.length by omega)) (show h.length + 3 ≠ h2.length by omega)
  have q1 := set_at (x := dead) (set_at (x := dead) (set_at (x := dead) ky (show h.length ≠ h2.length + 1 by omega)) (show h.length + 1 ≠ h2.length + 1 by omega)) (show h.length + 3 ≠ h2.length + 1 by omega)
  have q2 := set_at (x := dead) (set_at (x := dead) (set_at (x := dead) ks (show h.length ≠ h2.length + 2 by omega)) (show h.length + 1 ≠ h2.length + 2 by omega)) (show h.length + 3 ≠ h2.length + 2 by omega)
  have hl2 : h1.length ≤ h2.length := a2.len
  have lM : (h2 ++ ([⟨Ci m bx mx pl r, true⟩, ⟨Bs 16 y, true⟩, ⟨Bs 16 s, true⟩] : List Blk)).length = h2.length + 3 := by simp
  have hR3 := A.keep _ _ (by omega) hR0
  have hO3 := A.keep _ _ (by omega) hO0
  have hP3 := A.keep _ _ (by omega) hP0
  have p0 : ((((h2 ++ ([⟨Ci m bx mx pl r, true⟩, ⟨Bs 16 y, true⟩, ⟨Bs 16 s, true⟩] : List Blk)).set h.length dead).set (h.length + 1) dead).set (h.length + 3) dead)[h.length]? = some dead := set_at (set_at (look_set (by omega)) (by omega)) (by omega)
  have p1 : ((((h2 ++ ([⟨Ci m bx mx pl r, true⟩, ⟨Bs 16 y, true⟩, ⟨Bs 16 s, true⟩] : List Blk)).set h.length dead).set (h.length + 1) dead).set (h.length + 3) dead)[h.length + 1]? = some dead := set_at (look_set (by simp only [List.length_set]; omega)) (by omega)
  have p3 : ((((h2 ++ ([⟨Ci m bx mx pl r, true⟩, ⟨Bs 16 y, true⟩, ⟨Bs 16 s, true⟩] : List Blk)).set h.length dead).set (h.length + 1) dead).set (h.length + 3) dead)[h.length + 3]? = some dead := look_set (by simp only [List.length_set]; omega)
  have hO4 := set_at (x := ⟨Ci m bx mx pl r, true⟩) hO3 (show h.length ≠ h.length + 1 by omega)
  have hP4 := set_at (x := ⟨Bs 16 y, true⟩) (set_at (x := ⟨Ci m bx mx pl r, true⟩) hP3 (show h.length ≠ h.length + 2 by omega)) (show h.length + 1 ≠ h.length + 2 by omega)
  have hR5 := set_at (x := ⟨Bs 16 s, true⟩) (set_at (x := ⟨Bs 16 y, true⟩) (look_set (x := ⟨Ci m bx mx pl r, true⟩) (blt hR3)) (show h.length + 1 ≠ h.length by omega)) (show h.length + 2 ≠ h.length by omega)
  have hO5 := set_at (x := ⟨Bs 16 s, true⟩) (look_set (x := ⟨Bs 16 y, true⟩) (blt hO4)) (show h.length + 2 ≠ h.length + 1 by omega)
  have hlen : h.length ≤ h5.length := by have := A.len; omega
  have e : ∃ L, ((h5.set h.length ⟨Ci m bx mx pl r, true⟩).set (h.length + 1) ⟨Bs 16 y, true⟩).set (h.length + 2) ⟨Bs 16 s, true⟩ = h ++ L := setX (setX (setX (A.app h (by omega) (app_more e1)) (Nat.le_refl _) _) (by omega) _) (by omega) _
  refine ⟨m, bx, mx, pl, y, s, r, (x : Int) - ((z / 23 : Nat) : Int), _, hr, e, cv_app c e, ?_⟩
  (refine AC_begin (fun _ _ => Tryz.call39 _ _) Tryz.func39 rfl Tryz.ntmps39 Tryz.results39 (fun hwf => ?_); simp only [List.length_cons, List.length_nil, Nat.reduceAdd, Nat.reduceSub, List.replicate, List.cons_append, List.nil_append])
  (refine sW (And.intro @Ci_stC @Ci_splice_all) (And.intro @c1 @c2) ?_)
  first | refine WA_seq (WA_rb (id := 3) [15] (SubM.set (SubM.set (SubM.set (SubM.refl _) h.length) (h.length + 1)) (h.length + 3)) mixedOk ?_) | refine WA_rb (id := 3) [15] (SubM.set (SubM.set (SubM.set (SubM.refl _) h.length) (h.length + 1)) (h.length + 3)) mixedOk ?_
  simp only [List.size_toArray, List.length_cons, List.length_nil]
  refine RB_take false [3, 4, 9] 14 (by rfl) (by kernel_rfl) (by decide) (by decide +kernel) ?_
  try simp (maxSteps := 1000000) (disch := first | omega | rfl | decide | (simp only [List.length_cons, List.length_nil, List.length_append, Bs_length] <;> omega)) only [go_sem, Nat.reduceAdd, Ci_stC, Ci_splice_all, w1, w2, hN1, hN1', hR3, hO3, hP3, hO4, hP4, q0, q1, q2, p0, p1]
  refine RB_take true [0, 1, 2, 5] 10 (by rfl) (by kernel_rfl) (by decide) (by decide +kernel) ?_
  try simp (maxSteps := 1000000) (disch := first | omega | rfl | decide | (simp only [List.length_cons, List.length_nil, List.length_append, Bs_length] <;> omega)) only [go_sem, Nat.reduceAdd, Ci_stC, Ci_splice_all, w1, w2, hN1, hN1', hR3, hO3, hP3, hO4, hP4, q0, q1, q2, p0, p1]
  refine RB_take false [6, 7] 8 (by rfl) (by kernel_rfl) (by decide) (by decide +kernel) ?_
  try simp (maxSteps := 1000000) (disch := first | omega | rfl | decide | (simp only [List.length_cons, List.length_nil, List.length_append, Bs_length] <;> omega)) only [go_sem, Nat.reduceAdd, Ci_stC, Ci_splice_all, w1, w2, hN1, hN1', hR3, hO3, hP3, hO4, hP4, q0, q1, q2, p0, p1]
  refine RB_keepN (h.length + 3) 8 7 (by rfl) (by decide +kernel) (by rw [p3]; exact rfl) ?_
  try simp (maxSteps := 1000000) (disch := first | omega | rfl | decide | (simp only [List.length_cons, List.length_nil, List.length_append, Bs_length] <;> omega)) only [go_sem, Nat.reduceAdd, Ci_stC, Ci_splice_all, w1, w2, hN1, hN1', hR3, hO3, hP3, hO4, hP4, q0, q1, q2, p0, p1]
  refine callN_i hb4 hr4 c4 ?_
  rw [← g4]
  try simp (maxSteps := 1000000) (disch := first | omega | rfl | decide | (simp only [List.length_cons, List.length_nil, List.length_append, Bs_length] <;> omega)) only [go_sem, Nat.reduceAdd, Ci_stC, Ci_splice_all, w1, w2, hN1, hN1', hR3, hO3, hP3, hO4, hP4, q0, q1, q2, p0, p1]
  refine RB_keepN (h.length + 3) 10 6 (by rfl) (by decide +kernel) (by rw [p3]; exact rfl) ?_
  try simp (maxSteps := 1000000) (disch := first | omega | rfl | decide | (simp only [List.length_cons, List.length_nil, List.length_append, Bs_length] <;> omega)) only [go_sem, Nat.reduceAdd, Ci_stC, Ci_splice_all, w1, w2, hN1, hN1', hR3, hO3, hP3, hO4, hP4, q0, q1, q2, p0, p1]
  refine callN_i hb5 hr5 c5 ?_
  rw [← g5]
  try simp (maxSteps := 1000000) (disch := first | omega | rfl | decide | (simp only [List.length_cons, List.length_nil, List.length_append, Bs_length] <;> omega)) only [go_sem, Nat.reduceAdd, Ci_stC, Ci_splice_all, w1, w2, hN1, hN1', hR3, hO3, hP3, hO4, hP4, q0, q1, q2, p0, p1]
  refine RB_take false [11, 12] 4 (by rfl) (by kernel_rfl) (by decide) (by decide +kernel) ?_
  try simp (maxSteps := 1000000) (disch := first | omega | rfl | decide | (simp only [List.length_cons, List.length_nil, List.length_append, Bs_length] <;> omega)) only [go_sem, Nat.reduceAdd, Ci_stC, Ci_splice_all, w1, w2, hN1, hN1', hR3, hO3, hP3, hO4, hP4, q0, q1, q2, p0, p1]
  refine RB_keep 13 _ (by rfl) (by decide +kernel) (by simp (maxSteps := 1000000) (disch := first | omega | rfl | decide | (simp only [List.length_cons, List.length_nil, List.length_append, Bs_length] <;> omega)) only [go_sem, Nat.reduceAdd, Ci_stC, Ci_splice_all, w1, w2, hN1, hN1', hR3, hO3, hP3, hO4, hP4, q0, q1, q2, p0, p1]) ?_
  try simp (maxSteps := 1000000) (disch := first | omega | rfl | decide | (simp only [List.length_cons, List.length_nil, List.length_append, Bs_length] <;> omega)) only [go_sem, Nat.reduceAdd, Ci_stC, Ci_splice_all, w1, w2, hN1, hN1', hR3, hO3, hP3, hO4, hP4, q0, q1, q2, p0, p1]
  refine RB_keep 14 _ (by rfl) (by decide +kernel) (by simp (maxSteps := 1000000) (disch := first | omega | rfl | decide | (simp only [List.length_cons, List.length_nil, List.length_append, Bs_length] <;> omega)) only [go_sem, Nat.reduceAdd, Ci_stC, Ci_splice_all, w1, w2, hN1, hN1', hR3, hO3, hP3, hO4, hP4, q0, q1, q2, p0, p1]) ?_
  try simp (maxSteps := 1000000) (disch := first | omega | rfl | decide | (simp only [List.length_cons, List.length_nil, List.length_append, Bs_length] <;> omega)) only [go_sem, Nat.reduceAdd, Ci_stC, Ci_splice_all, w1, w2, hN1, hN1', hR3, hO3, hP3, hO4, hP4, q0, q1, q2, p0, p1]
  refine RB_exec 15 _ (by rfl) (by decide +kernel) (by decide +kernel) ?_
  try simp (maxSteps := 1000000) (disch := first | omega | rfl | decide | (simp only [List.length_cons, List.length_nil, List.length_append, Bs_length] <;> omega)) only [go_sem, Nat.reduceAdd, Ci_stC, Ci_splice_all, w1, w2, hN1, hN1', hR3, hO3, hP3, hO4, hP4, q0, q1, q2, p0, p1]
  refine RB_take false [16] 0 (by rfl) (by kernel_rfl) (by decide) (by decide +kernel) ?_
  try simp (maxSteps := 1000000) (disch := first | omega | rfl | decide | (simp only [List.length_cons, List.length_nil, List.length_append, Bs_length] <;> omega)) only [go_sem, Nat.reduceAdd, Ci_stC, Ci_splice_all, w1, w2, hN1, hN1', hR3, hO3, hP3, hO4, hP4, q0, q1, q2, p0, p1]
  refine RB_done (by decide +kernel) ?_
  try simp (maxSteps := 1000000) (disch := first | omega | rfl | decide | (simp only [List.length_cons, List.length_nil, List.length_append, Bs_length] <;> omega)) only [go_sem, Nat.reduceAdd, Ci_stC, Ci_splice_all, w1, w2, hN1, hN1', hR3, hO3, hP3, hO4, hP4, q0, q1, q2, p0, p1]
  (refine sN0 ?_)
  refine ret_full (by first | exact .inr rfl | exact .inl rfl) (by simp only [List.length_set]; omega) ?_
  simp (maxSteps := 1000000) (disch := first | omega | rfl | decide | (simp only [List.length_cons, List.length_nil, List.length_append, LV] <;> omega)) only [go_sem, Nat.reduceAdd, Int.reduceAdd, Int.reduceSub, Int.reduceMul, Bool.not_true, Bool.not_false, hR5, hO5, look_set (blt hP4)]
  try rfl

end Go.Proofs.YtkdpjkpedklbpaaGreatDoor
/- Which boxes and places are permutations, which matrices have inverses: networks and ciphers. -/
namespace Go.Proofs.YtkdpjkpedklbpaaGreatDoor
set_option linter.unusedSimpArgs false
set_option linter.unusedVariables false
set_option maxRecDepth 20000
set_option maxHeartbeats 1000000
open Go.Abs

/-- A row of truths. -/
abbrev Ts (n : Nat) (f : Nat → Bool) : List Value := Vs n fun i => .bool (f i)
theorem bft : (false == true) = false := rfl
theorem upd_bool (f : Nat → Bool) (i : Nat) (x : Bool) : upd (fun i => Value.bool (f i)) i (.bool x) = fun j => Value.bool (upd f i x j) := by
  funext j; unfold upd; split <;> rfl
/-- Which values the first k places have. -/
def metB (f : Nat → UInt8) (k : Nat) : Nat → Bool := fun y => (List.range k).any fun i => (f i).toNat == y
theorem metB_zero (f : Nat → UInt8) : metB f 0 = fun _ => false := rfl
theorem metB_set (f : Nat → UInt8) (k : Nat) : upd (metB f k) (f k).toNat true = metB f (k + 1) := by
  funext y
  unfold upd metB
  rw [List.range_succ, List.any_append]
  by_cases h : y = (f k).toNat
  · subst h; simp
  · rw [if_neg h]
    have : ((f k).toNat == y) = false := by simpa using fun e => h e.symm
    simp [this]
theorem metB_at (f : Nat → UInt8) (k : Nat) : metB f k (f k).toNat = twiceAt f k k := by
  unfold metB twiceAt
  congr 1
  funext i
  rw [Bool.eq_iff_iff]
  simp only [beq_iff_eq]
  constructor
  · intro h; exact (UInt8.toNat_inj.1 h).symm
  · intro h; rw [h]
theorem twice_iff (f : Nat → UInt8) (n : Nat) : twiceP f n = false ↔ ∀ i j, i < n → j < n → f i = f j → i = j := by
  have key : twiceP f n = true ↔ ∃ i j, i < n ∧ j < i ∧ f i = f j := by
    unfold twiceP twiceAt
    simp only [List.any_eq_true, List.mem_range, beq_iff_eq]
    constructor
    · rintro ⟨i, hi, j, hj, e⟩; exact ⟨i, j, hi, hj, e⟩
    · rintro ⟨i, j, hi, hj, e⟩; exact ⟨i, hi, j, hj, e⟩
  constructor
  · intro h i j hi hj e
    rcases Nat.lt_trichotomy i j with h1 | h1 | h1
    · exact absurd (key.2 ⟨j, i, hj, h1, e.symm⟩) (by rw [h]; decide)
    · exact h1
    · exact absurd (key.2 ⟨i, j, hi, h1, e⟩) (by rw [h]; decide)
  · intro h
    cases ht : twiceP f n with
    | false => rfl
    | true => obtain ⟨i, j, hi, hj, e⟩ := key.1 ht; have := h i j hi (by omega) e; omega
/-- Whether a box is a permutation. -/
def boxOk (f : Nat → UInt8) : Bool := !twiceP f 256
theorem seen_all (f : Nat → UInt8) : (List.range 256).all (metB f 256) = boxOk f := by
  unfold boxOk
  rw [Bool.eq_iff_iff, Bool.not_eq_true', twice_iff]
  have hr : ∀ i, i < 256 → (f i).toNat < 256 := fun i _ => u8_lt (f i)
  constructor
  · intro h i j hi hj e
    refine surj_inj 256 (fun i => (f i).toNat) hr (fun y hy => ?_) i j hi hj (by rw [e])
    have := List.all_eq_true.1 h y (List.mem_range.2 hy)
    obtain ⟨x, hx, hx2⟩ := List.any_eq_true.1 this
    exact ⟨x, List.mem_range.1 hx, by simpa using hx2⟩
  · intro h
    rw [List.all_eq_true]
    intro y hy
    obtain ⟨i, hi, e⟩ := inj_surj 256 (fun i => (f i).toNat) hr (fun i j hi hj e => h i j hi hj (UInt8.toNat_inj.1 e)) y (List.mem_range.1 hy)
    exact List.any_eq_true.2 ⟨i, List.mem_range.2 hi, by simpa using e⟩

theorem boxS_ac (f : Nat → UInt8) (h : List Blk) : AC Tryz.prog 72 [.agg (Bs 256 f).toArray] h (.bool (boxOk f)) h := by
  (refine AC_begin (fun _ _ => Tryz.call72 _ _) Tryz.func72 rfl Tryz.ntmps72 Tryz.results72 (fun hwf => ?_); simp only [List.length_cons, List.length_nil, Nat.reduceAdd, Nat.reduceSub, List.replicate, List.cons_append, List.nil_append])
  (refine sN0 ?_)
  refine WA_forPJ (fun k => twiceP f k = false) (fun k => [(2, J), (4, .int .i64 k), (6, J), (7, J), (8, J), (9, J), (10, J), (11, J), (12, J), (13, J), (14, J), (15, J), (16, J), (17, J), (18, J)]) (fun k => [(1, ⟨Ts 256 (metB f k), true⟩)]) (256) ?_ ?_ ?_ ?_ <;> (try simp only [patT_cons, patT_nil, patL_cons, patL_nil, list_set_zero, list_set_succ, blk_set_zero, blk_set_succ])
  · rfl
  · rw [metB_zero]
    (exact sS0)
  · intro i hi hJ
    have hf := u8_lt (f i)
    cases he : twiceAt f i i
    · (refine sN (And.intro @metB_at (And.intro @he (And.intro @upd_bool @metB_set))) ?_)
      refine ⟨twiceP_s hJ he, ?_⟩
      (exact sS0)
    · (refine sN (And.intro @metB_at @he) ?_)
      (exact sR (And.intro @boxOk.eq_1 (twiceP_t hi he)))
  · intro hJ
    (refine sN0 ?_)
    (exact sR (And.intro @boxOk.eq_1 @hJ))

/-- How many places ahead of the first falsehood. -/
def allT (f : Nat → Bool) (n : Nat) : Bool := (List.range n).all f
theorem allT_s {f : Nat → Bool} {k : Nat} (h : allT f k = true) (h2 : f k = true) : allT f (k + 1) = true := by
  unfold allT at *; rw [List.range_succ, List.all_append, h]; simpa using h2
theorem indexT_ac {h : List Blk} {b n : Nat} {f : Nat → Bool} {r : Bool} (hb : h[b]? = some ⟨Ts n f, r⟩) (hn : n ≤ 1048576) : ∃ x : Int, AC Tryz.prog 127 [sl b 0 n 1, .bool false] h (.int .i64 x) h ∧ decide (0 ≤ x) = !allT f n := by
  have hbl := blt hb
  cases ha : allT f n
  · have hex : ∃ i, i < n ∧ f i = false ∧ allT f i = true := by
      clear hb hn hbl
      induction n with
      | zero => cases ha
      | succ n ih =>
        cases hn : allT f n with
        | false => obtain ⟨i, h1, h2, h3⟩ := ih hn; exact ⟨i, by omega, h2, h3⟩
        | true =>
          cases hf : f n with
          | false => exact ⟨n, by omega, hf, hn⟩
          | true => rw [allT_s hn hf] at ha; cases ha
    obtain ⟨i, hi, hf, hall⟩ := hex
    refine ⟨(i : Int), ?_, by simp⟩
    (refine AC_begin (fun _ _ => Tryz.call127 _ _) Tryz.func127 rfl Tryz.ntmps127 Tryz.results127 (fun hwf => ?_); simp only [List.length_cons, List.length_nil, Nat.reduceAdd, Nat.reduceSub, List.replicate, List.cons_append, List.nil_append])
    (refine sN0 ?_)
    refine WA_forH (fun k => [(4, J), (5, J), (8, .int .i64 k), (9, J), (10, J), (11, J), (12, J), (13, J), (14, J), (15, J), (16, J), (17, J), (18, J)]) (fun k => h) (i) ?_ ?_ ?_ <;> (try simp only [patT_cons, patT_nil, patL_cons, patL_nil, list_set_zero, list_set_succ, blk_set_zero, blk_set_succ])
    · (exact sS0)
    · intro k hk
      have hfk : f k = true := List.all_eq_true.1 hall k (List.mem_range.2 hk)
      (refine sN (And.intro @hb (And.intro @hfk @bft)) ?_)
      (exact sS0)
    · (refine sN (And.intro @hb @hf) ?_)
      (exact sR0)
  · refine ⟨-1, ?_, by simp⟩
    (refine AC_begin (fun _ _ => Tryz.call127 _ _) Tryz.func127 rfl Tryz.ntmps127 Tryz.results127 (fun hwf => ?_); simp only [List.length_cons, List.length_nil, Nat.reduceAdd, Nat.reduceSub, List.replicate, List.cons_append, List.nil_append])
    (refine sN0 ?_)
    refine WA_forH (fun k => [(4, J), (5, J), (8, .int .i64 k), (9, J), (10, J), (11, J), (12, J), (13, J), (14, J), (15, J), (16, J), (17, J), (18, J)]) (fun k => h) (n) ?_ ?_ ?_ <;> (try simp only [patT_cons, patT_nil, patL_cons, patL_nil, list_set_zero, list_set_succ, blk_set_zero, blk_set_succ])
    · (exact sS0)
    · intro k hk
      have hfk : f k = true := List.all_eq_true.1 ha k (List.mem_range.2 hk)
      (refine sN (And.intro @hb (And.intro @hfk @bft)) ?_)
      (exact sS0)
    · (refine sN0 ?_)
      (exact sR0)
theorem containsT_ac {h : List Blk} {b n : Nat} {f : Nat → Bool} {r : Bool} (hb : h[b]? = some ⟨Ts n f, r⟩) (hn : n ≤ 1048576) : AC Tryz.prog 102 [sl b 0 n 1, .bool false] h (.bool (!allT f n)) h := by
  obtain ⟨x, hx, hx2⟩ := indexT_ac hb hn
  (refine AC_begin (fun _ _ => Tryz.call102 _ _) Tryz.func102 rfl Tryz.ntmps102 Tryz.results102 (fun hwf => ?_); simp only [List.length_cons, List.length_nil, Nat.reduceAdd, Nat.reduceSub, List.replicate, List.cons_append, List.nil_append])
  (refine sW @hx2 @hx ?_)
  (exact sR @hx2)

theorem boxI_ac (f : Nat → UInt8) (h : List Blk) : AC Tryz.prog 63 [.agg (Bs 256 f).toArray] h (.bool (boxOk f)) h := by
  (refine AC_begin (fun _ _ => Tryz.call63 _ _) Tryz.func63 rfl Tryz.ntmps63 Tryz.results63 (fun hwf => ?_); simp only [List.length_cons, List.length_nil, Nat.reduceAdd, Nat.reduceSub, List.replicate, List.cons_append, List.nil_append])
  (refine sN0 ?_)
  refine WA_forP (fun k => [(5, J), (8, .int .i64 k), (9, J), (10, J), (11, J), (12, J), (13, J)]) (fun k => [(1, ⟨Ts 256 (metB f k), true⟩)]) (256) ?_ ?_ ?_ <;> (try simp only [patT_cons, patT_nil, patL_cons, patL_nil, list_set_zero, list_set_succ, blk_set_zero, blk_set_succ])
  · rw [metB_zero]
    (exact sS0)
  · intro i hi
    have hf := u8_lt (f i)
    (refine sN (And.intro @upd_bool @metB_set) ?_)
    (exact sS0)
  · (refine sY0 @containsT_ac ?_)
    (exact sR (And.intro @Bool.not_not (show allT (metB f 256) 256 = boxOk f from seen_all f)))

/-- Whether 16 bytes are a permutation of the places. -/
def plRange (f : Nat → UInt8) (k : Nat) : Bool := (List.range k).all fun i => decide ((f i).toNat < 16)
def plOk (f : Nat → UInt8) : Bool := plRange f 16 && !twiceP f 16
theorem plRange_s {f : Nat → UInt8} {k : Nat} (h : plRange f k = true) (h2 : (f k).toNat < 16) : plRange f (k + 1) = true := by
  unfold plRange at *; rw [List.range_succ, List.all_append, h]; simpa using h2
theorem plRange_f {f : Nat → UInt8} {k n : Nat} (hk : k < n) (h : 16 ≤ (f k).toNat) : plRange f n = false := by
  cases ha : plRange f n with
  | false => rfl
  | true => have := List.all_eq_true.1 ha k (List.mem_range.2 hk); simp at this; omega
theorem plOk_lt {f : Nat → UInt8} (h : plOk f = true) {i : Nat} (hi : i < 16) : (f i).toNat < 16 := by
  unfold plOk at h
  rw [Bool.and_eq_true] at h
  have := List.all_eq_true.1 h.1 i (List.mem_range.2 hi)
  simpa using this

theorem permS_ac (f : Nat → UInt8) (h : List Blk) : AC Tryz.prog 73 [.agg (Bs 16 f).toArray] h (.bool (plOk f)) h := by
  (refine AC_begin (fun _ _ => Tryz.call73 _ _) Tryz.func73 rfl Tryz.ntmps73 Tryz.results73 (fun hwf => ?_); simp only [List.length_cons, List.length_nil, Nat.reduceAdd, Nat.reduceSub, List.replicate, List.cons_append, List.nil_append])
  (refine sN (@yieldA_at 4 14) ?_)
  refine WA_forPJ (fun k => twiceP f k = false ∧ plRange f k = true) (fun k => [(2, J), (4, .int .i64 k), (6, J), (7, J), (8, J), (9, J), (10, J), (11, J), (12, J), (13, J), (14, J), (15, J), (16, J), (17, J), (18, J), (19, J), (20, J), (21, J), (22, J), (23, J), (24, J)]) (fun k => [(1, ⟨Ts 16 (metB f k), true⟩)]) (16) ?_ ?_ ?_ ?_ <;> (try simp only [patT_cons, patT_nil, patL_cons, patL_nil, list_set_zero, list_set_succ, blk_set_zero, blk_set_succ])
  · exact ⟨rfl, rfl⟩
  · rw [metB_zero]
    (exact sS0)
  · intro i hi hJ
    rcases Nat.lt_or_ge (f i).toNat 16 with hf | hf
    · have hg : decide ((16 : UInt8) ≤ f i) = false := decide_eq_false (by show ¬ (16 : Nat) ≤ (f i).toNat; omega)
      cases he : twiceAt f i i
      · (refine sN (And.intro @hg (And.intro @metB_at (And.intro @he (And.intro @upd_bool (And.intro @metB_set (@yieldA_at 4 14)))))) ?_)
        refine ⟨⟨twiceP_s hJ.1 he, plRange_s hJ.2 hf⟩, ?_⟩
        (exact sS0)
      · (refine sN (And.intro @hg (And.intro @metB_at (And.intro @he (@yieldA_at 4 14)))) ?_)
        (exact sR (And.intro @plOk.eq_1 (And.intro (twiceP_t hi he) @Bool.and_false)))
    · have hg : decide ((16 : UInt8) ≤ f i) = true := decide_eq_true (by show (16 : Nat) ≤ (f i).toNat; omega)
      (refine sN (And.intro @hg (@yieldA_at 4 14)) ?_)
      (exact sR (And.intro @plOk.eq_1 (And.intro (plRange_f hi hf) @Bool.false_and)))
  · intro hJ
    (refine sN (@yieldA_at 4 14) ?_)
    (exact sR (And.intro @plOk.eq_1 (And.intro @hJ.1 @hJ.2)))

theorem permI_ac (f : Nat → UInt8) (h : List Blk) : AC Tryz.prog 65 [.agg (Bs 16 f).toArray] h (.bool (plOk f)) h := by
  (refine AC_begin (fun _ _ => Tryz.call65 _ _) Tryz.func65 rfl Tryz.ntmps65 Tryz.results65 (fun hwf => ?_); simp only [List.length_cons, List.length_nil, Nat.reduceAdd, Nat.reduceSub, List.replicate, List.cons_append, List.nil_append])
  (refine sN0 ?_)
  refine WA_forPJ (fun k => plRange f k = true) (fun k => [(2, J), (4, J), (6, .int .i64 k), (7, J), (8, J), (9, J), (10, J), (11, J)]) (fun k => []) (16) ?_ ?_ ?_ ?_ <;> (try simp only [patT_cons, patT_nil, patL_cons, patL_nil, list_set_zero, list_set_succ, blk_set_zero, blk_set_succ])
  · rfl
  · (exact sS0)
  · intro i hi hJ
    rcases Nat.lt_or_ge (f i).toNat 16 with hf | hf
    · have hg : decide ((15 : UInt8) < f i) = false := decide_eq_false (by show ¬ (15 : Nat) < (f i).toNat; omega)
      (refine sN @hg ?_)
      refine ⟨plRange_s hJ hf, ?_⟩
      (exact sS0)
    · have hg : decide ((15 : UInt8) < f i) = true := decide_eq_true (by show (15 : Nat) < (f i).toNat; omega)
      (refine sN @hg ?_)
      (exact sR (And.intro @plOk.eq_1 (And.intro (plRange_f hi hf) @Bool.false_and)))
  · intro hJ
    (refine sY0 @areDifferent_ac ?_)
    (exact sR (And.intro @plOk.eq_1 (And.intro @hJ @Bool.true_and)))

theorem isInvI_ac {m : Nat} (h0 : 256 ≤ m) (h1 : m < 512) (a : Nat → UInt8) (h : List Blk) : AC Tryz.prog 64 [.int .i64 m, .agg (Bs 16 a).toArray] h (.bool (detF m a != 0)) h := by
  (refine AC_begin (fun _ _ => Tryz.call64 _ _) Tryz.func64 rfl Tryz.ntmps64 Tryz.results64 (fun hwf => ?_); simp only [List.length_cons, List.length_nil, Nat.reduceAdd, Nat.reduceSub, List.replicate, List.cons_append, List.nil_append])
  (refine sW0 (redI_ac h0 h1) ?_)
  (exact sR0)

end Go.Proofs.YtkdpjkpedklbpaaGreatDoor
/- The parts of networks and of ciphers. -/
namespace Go.Proofs.YtkdpjkpedklbpaaGreatDoor
set_option linter.unusedSimpArgs false
set_option linter.unusedVariables false
set_option maxRecDepth 20000
set_option maxHeartbeats 1000000
open Go.Abs

/-- Whether these are a cipher's parts. -/
def cipB (m : Int) (bx mx pl : Nat → UInt8) (r : Int) : Bool := fieldB m.toNat && (boxOk bx && (detF m.toNat mx != 0 && (plOk pl && inR r 1 20)))
theorem cipB_nat {m : Int} {bx mx pl : Nat → UInt8} {r : Int} (h : cipB m bx mx pl r = true) : ∃ k : Nat, m = k ∧ 256 ≤ k ∧ k < 512 ∧ fieldB k = true ∧ detF k mx ≠ 0 ∧ plOk pl = true ∧ ∃ n : Nat, r = n ∧ 1 ≤ n ∧ n ≤ 20 := by
  unfold cipB at h
  simp only [Bool.and_eq_true] at h
  obtain ⟨hf, hb, hd, hp, hr⟩ := h
  obtain ⟨k, rfl, h2, h0, h1⟩ := fieldB_nat hf
  unfold inR at hr
  simp only [Bool.and_eq_true, decide_eq_true_eq] at hr
  exact ⟨k, rfl, h0, h1, h2, by simpa using hd, hp, r.toNat, by omega, by omega, by omega⟩

end Go.Proofs.YtkdpjkpedklbpaaGreatDoor
/- Inverses of permutations, tables of products, engines. -/
namespace Go.Proofs.YtkdpjkpedklbpaaGreatDoor
set_option linter.unusedSimpArgs false
set_option linter.unusedVariables false
set_option maxRecDepth 20000
set_option maxHeartbeats 1000000
open Go.Abs

/-- The first k places of the inverse. -/
def invP (f : Nat → UInt8) : Nat → Nat → UInt8
  | 0 => fun _ => 0
  | k + 1 => upd (invP f k) (f k).toNat (UInt8.ofNat k)
theorem invP_zero (f : Nat → UInt8) : invP f 0 = fun _ => 0 := rfl
theorem invP_set (f : Nat → UInt8) (k : Nat) : upd (invP f k) (f k).toNat (UInt8.ofNat k) = invP f (k + 1) := rfl

theorem invBoxI_ac (f : Nat → UInt8) (h : List Blk) : AC Tryz.prog 67 [.agg (Bs 256 f).toArray] h (.agg (Bs 256 (invP f 256)).toArray) h := by
  (refine AC_begin (fun _ _ => Tryz.call67 _ _) Tryz.func67 rfl Tryz.ntmps67 Tryz.results67 (fun hwf => ?_); simp only [List.length_cons, List.length_nil, Nat.reduceAdd, Nat.reduceSub, List.replicate, List.cons_append, List.nil_append])
  (refine sN0 ?_)
  refine WA_forP (fun k => [(4, J), (5, J), (8, .int .i64 k), (9, J), (10, J), (11, J), (12, J), (13, J), (14, J), (15, J), (16, J)]) (fun k => [(2, ⟨Bs 256 (invP f k), true⟩)]) (256) ?_ ?_ ?_ <;> (try simp only [patT_cons, patT_nil, patL_cons, patL_nil, list_set_zero, list_set_succ, blk_set_zero, blk_set_succ])
  · rw [invP_zero]
    (exact sS0)
  · intro i hi
    have hf := u8_lt (f i)
    (refine sN @invP_set ?_)
    (exact sS0)
  · (refine sN0 ?_)
    (exact sR0)

theorem turnPI_ac {f : Nat → UInt8} (hp : plOk f = true) (h : List Blk) : AC Tryz.prog 68 [.agg (Bs 16 f).toArray] h (.agg (Bs 16 (invP f 16)).toArray) h := by
  (refine AC_begin (fun _ _ => Tryz.call68 _ _) Tryz.func68 rfl Tryz.ntmps68 Tryz.results68 (fun hwf => ?_); simp only [List.length_cons, List.length_nil, Nat.reduceAdd, Nat.reduceSub, List.replicate, List.cons_append, List.nil_append])
  (refine sN0 ?_)
  refine WA_forP (fun k => [(4, J), (5, J), (8, .int .i64 k), (9, J), (10, J), (11, J), (12, J), (13, J), (14, J), (15, J), (16, J)]) (fun k => [(2, ⟨Bs 16 (invP f k), true⟩)]) (16) ?_ ?_ ?_ <;> (try simp only [patT_cons, patT_nil, patL_cons, patL_nil, list_set_zero, list_set_succ, blk_set_zero, blk_set_succ])
  · rw [invP_zero]
    (exact sS0)
  · intro i hi
    have hf := plOk_lt hp hi
    (refine sN @invP_set ?_)
    (exact sS0)
  · (refine sN0 ?_)
    (exact sR0)

/-- A block moved by places. -/
def movF (p b : Nat → UInt8) : Nat → UInt8 := fun i => b (p i).toNat
theorem invP_lt (f : Nat → UInt8) : ∀ k, k ≤ 16 → ∀ i, (invP f k i).toNat < 16
  | 0, _, i => by show (0 : UInt8).toNat < 16; decide
  | k + 1, hk, i => by
    unfold invP upd
    split
    · rw [u8_ofNat_toNat (by omega)]; omega
    · exact invP_lt f k (by omega) i

theorem moveS_ac {p : Nat → UInt8} (hp : ∀ i, i < 16 → (p i).toNat < 16) (b : Nat → UInt8) (h : List Blk) : AC Tryz.prog 78 [.agg (Bs 16 p).toArray, .agg (Bs 16 b).toArray] h (.agg (Bs 16 (movF p b)).toArray) h := by
  (refine AC_begin (fun _ _ => Tryz.call78 _ _) Tryz.func78 rfl Tryz.ntmps78 Tryz.results78 (fun hwf => ?_); simp only [List.length_cons, List.length_nil, Nat.reduceAdd, Nat.reduceSub, List.replicate, List.cons_append, List.nil_append])
  (refine sN0 ?_)
  refine WA_forP (fun k => [(6, .int .i64 k), (8, J), (9, J), (10, J), (11, J), (12, J), (13, J), (14, J), (15, J), (16, J), (17, J), (18, J)]) (fun k => [(3, ⟨Bs 16 (pre k (movF p b) fun _ => 0), true⟩)]) (16) ?_ ?_ ?_ <;> (try simp only [patT_cons, patT_nil, patL_cons, patL_nil, list_set_zero, list_set_succ, blk_set_zero, blk_set_succ])
  · rw [pre_zero]
    (exact sS0)
  · intro i hi
    have hf := hp i hi
    (refine sN (And.intro (show b (p i).toNat = movF p b i from rfl) @upd_pre) ?_)
    (exact sS0)
  · (refine sN0 ?_)
    (exact sR @Bs_pre)

theorem moveI_ac {p : Nat → UInt8} (hp : ∀ i, i < 16 → (p i).toNat < 16) (b : Nat → UInt8) (h : List Blk) : AC Tryz.prog 76 [.agg (Bs 16 p).toArray, .agg (Bs 16 b).toArray] h (.agg (Bs 16 (movF p b)).toArray) h := by
  (refine AC_begin (fun _ _ => Tryz.call76 _ _) Tryz.func76 rfl Tryz.ntmps76 Tryz.results76 (fun hwf => ?_); simp only [List.length_cons, List.length_nil, Nat.reduceAdd, Nat.reduceSub, List.replicate, List.cons_append, List.nil_append])
  (refine sN0 ?_)
  refine WA_forP (fun k => [(6, J), (7, J), (10, .int .i64 k), (11, J), (12, J), (13, J), (14, J), (15, J), (16, J), (17, J), (18, J), (19, J)]) (fun k => [(3, ⟨Bs 16 (pre k (movF p b) fun _ => 0), true⟩)]) (16) ?_ ?_ ?_ <;> (try simp only [patT_cons, patT_nil, patL_cons, patL_nil, list_set_zero, list_set_succ, blk_set_zero, blk_set_succ])
  · rw [pre_zero]
    (exact sS0)
  · intro i hi
    have hf := hp i hi
    (refine sN (And.intro (show b (p i).toNat = movF p b i from rfl) @upd_pre) ?_)
    (exact sS0)
  · (refine sN0 ?_)
    (exact sR @Bs_pre)

/-- The table of products of the elements of a matrix. -/
def mixT (m : Nat) (a : Nat → UInt8) : Nat → UInt8 := fun n => tm m (a (n / 256)) (UInt8.ofNat (n % 256))
theorem mixT_at (m : Nat) (a : Nat → UInt8) (q : Nat) (x : UInt8) : mixT m a (q * 256 + x.toNat) = tm m (a q) x := by
  have := u8_lt x
  unfold mixT
  rw [show (q * 256 + x.toNat) / 256 = q by omega, show (q * 256 + x.toNat) % 256 = x.toNat by omega, UInt8.ofNat_toNat]
def pw (k : Nat) : Nat := 2 ^ k
theorem pw_zero : pw 0 = 1 := rfl
theorem pw_succ (k : Nat) : pw k * 2 = pw (k + 1) := by unfold pw; rw [Nat.pow_succ]
theorem pw_lt {k : Nat} (h : k < 8) : 1 ≤ pw k ∧ pw k ≤ 128 := ⟨Nat.two_pow_pos k, show 2 ^ k ≤ 2 ^ 7 from Nat.pow_le_pow_right (by omega) (by omega)⟩
theorem pw_or {k l : Nat} (h : l < pw k) : pw k ||| l = pw k + l := pow_or h
theorem mixT_add {m : Nat} (a : Nat → UInt8) {q k l : Nat} (hk : k < 8) (hl : l < pw k) : tm m (a q) (UInt8.ofNat (pw k)) ^^^ mixT m a (q * 256 + l) = mixT m a (q * 256 + (pw k + l)) := by
  have := pw_lt hk
  unfold mixT
  rw [show (q * 256 + l) / 256 = q by omega, show (q * 256 + l) % 256 = l by omega, show (q * 256 + (pw k + l)) / 256 = q by omega, show (q * 256 + (pw k + l)) % 256 = pw k + l by omega, ← tm_xor, ← ofNat_xor]
  congr 2
  exact pow_xor hl
theorem mix_start (m : Nat) (a : Nat → UInt8) (q : Nat) : pre (q * 256 + pw 0) (mixT m a) (fun _ => 0) = pre (q * 256) (mixT m a) fun _ => 0 := by
  funext i
  unfold pre
  rw [pw_zero]
  by_cases h : i < q * 256
  · rw [if_pos h, if_pos (by omega)]
  · rw [if_neg h]
    by_cases h2 : i < q * 256 + 1
    · rw [if_pos h2, show i = q * 256 by omega]
      unfold mixT
      rw [show q * 256 % 256 = 0 by omega]
      exact tm_zeroR m _
    · rw [if_neg h2]

theorem newMixer0_ac {m : Nat} (h0 : 256 ≤ m) (h1 : m < 512) (a : Nat → UInt8) (h : List Blk) : AC Tryz.prog 69 [.int .i64 m, .agg (Bs 16 a).toArray] h (pt (h.length + 1) 0) (h ++ [⟨Bs 16 a, true⟩, ⟨Bs 4096 (mixT m a), true⟩]) := by
  (refine AC_begin (fun _ _ => Tryz.call69 _ _) Tryz.func69 rfl Tryz.ntmps69 Tryz.results69 (fun hwf => ?_); simp only [List.length_cons, List.length_nil, Nat.reduceAdd, Nat.reduceSub, List.replicate, List.cons_append, List.nil_append])
  (refine sN0 ?_)
  refine WA_forP (fun k => [(6, J), (7, J), (8, J), (9, J), (10, J), (11, J), (14, .int .i64 k), (15, J), (16, J), (17, J), (18, J), (19, J), (20, J), (21, J), (22, J), (23, J), (24, J), (25, J), (26, J), (27, J), (28, J), (29, J), (30, J), (31, J), (32, J), (33, J), (34, J), (35, J), (36, J), (37, J), (38, J), (39, J), (40, J), (41, J), (42, J), (43, J), (44, J), (45, J), (46, J), (47, J), (48, J), (49, J), (50, J), (51, J), (52, J), (53, J), (54, J), (55, J), (56, J), (57, J), (58, J), (59, J), (60, J)]) (fun k => [(1, ⟨Bs 4096 (pre (k * 4 * 256) (mixT m a) fun _ => 0), true⟩)]) (4) ?_ ?_ ?_ <;> (try simp only [patT_cons, patT_nil, patL_cons, patL_nil, list_set_zero, list_set_succ, blk_set_zero, blk_set_succ])
  · rw [Nat.zero_mul, pre_zero]
    (exact sS0)
  · intro i hi
    (refine sN0 ?_)
    refine WA_forP (fun k => [(7, J), (8, J), (9, J), (10, J), (11, J), (20, .int .i64 k), (21, J), (22, J), (23, J), (24, J), (25, J), (26, J), (27, J), (28, J), (29, J), (30, J), (31, J), (32, J), (33, J), (34, J), (35, J), (36, J), (37, J), (38, J), (39, J), (40, J), (41, J), (42, J), (43, J), (44, J), (45, J), (46, J), (47, J), (48, J), (49, J), (50, J), (51, J), (52, J), (53, J), (54, J), (55, J), (56, J), (57, J), (58, J), (59, J)]) (fun k => [(1, ⟨Bs 4096 (pre ((i * 4 + k) * 256) (mixT m a) fun _ => 0), true⟩)]) (4) ?_ ?_ ?_ <;> (try simp only [patT_cons, patT_nil, patL_cons, patL_nil, list_set_zero, list_set_succ, blk_set_zero, blk_set_succ])
    · (exact sS0)
    · intro j hj
      (refine sN0 ?_)
      refine WA_forP (fun k => [(9, .int .i64 ((pw k : Nat) : Int)), (10, J), (11, J), (24, J), (25, J), (26, J), (27, J), (28, J), (29, J), (30, J), (31, J), (32, J), (33, J), (34, J), (35, J), (36, J), (37, J), (38, J), (39, J), (40, J), (41, J), (42, J), (43, J), (44, J), (45, J), (46, J), (47, J), (48, J), (49, J), (50, J), (51, J), (52, J), (53, J), (54, J), (55, J), (56, J), (57, J), (58, J)]) (fun k => [(1, ⟨Bs 4096 (pre ((i * 4 + j) * 256 + pw k) (mixT m a) fun _ => 0), true⟩)]) (8) ?_ ?_ ?_ <;> (try simp only [patT_cons, patT_nil, patL_cons, patL_nil, list_set_zero, list_set_succ, blk_set_zero, blk_set_succ])
      · rw [mix_start, pw_zero]
        (exact sS0)
      · intro e he
        have hp := pw_lt he
        have hw := wrap_N (n := pw (e + 1)) (by rw [← pw_succ]; omega)
        (refine sW0 (tmI_ac h0 h1) ?_)
        refine WA_forP (fun k => [(11, J), (34, .int .i64 k), (35, J), (36, J), (37, J), (38, J), (39, J), (40, J), (41, J), (42, J), (43, J), (44, J), (45, J), (46, J), (47, J), (48, J), (49, J), (50, J), (51, J), (52, J), (53, J), (54, J), (55, J), (56, J), (57, J), (58, J)]) (fun k => [(1, ⟨Bs 4096 (pre ((i * 4 + j) * 256 + (pw e + k)) (mixT m a) fun _ => 0), true⟩)]) (pw e) ?_ ?_ ?_ <;> (try simp only [patT_cons, patT_nil, patL_cons, patL_nil, list_set_zero, list_set_succ, blk_set_zero, blk_set_succ])
        · (exact sS0)
        · intro l hl
          have hor := pw_or hl
          have hpl : pre ((i * 4 + j) * 256 + (pw e + l)) (mixT m a) (fun _ => 0) ((i * 4 + j) * 256 + l) = mixT m a ((i * 4 + j) * 256 + l) := if_pos (by omega)
          have ha := mixT_add (m := m) a (q := i * 4 + j) he hl
          have hi1 : i * 1024 + j * 256 = (i * 4 + j) * 256 := by omega
          (repeat (first | ((first | (refine And.intro ?_ ?_; focus exact PLA) | refine WA_seq (WA_region ?_) | refine WA_region ?_ | refine WA_exit ?_); try simp (maxSteps := 1000000) (disch := first | omega | rfl | decide | (simp only [List.length_cons, List.length_nil, List.length_append, LV] <;> omega)) only [go_sem, Nat.reduceAdd, Int.reduceAdd, Int.reduceSub, Int.reduceMul, Bool.not_true, Bool.not_false, hor, hi1, hpl, ha, upd_pre]) | (refine (WA_rb (id := 15) [21] (SubM.refl _) mixedOk ?_); simp only [List.size_toArray, List.length_cons, List.length_nil]; (repeat (first | ((first | (refine And.intro ?_ ?_; focus exact PLA) | refine RB_take false [0, 1, 2, 3, 4, 5, 6, 7, 8, 9, 10, 11, 12, 13, 14, 17, 18, 19] 4 (by rfl) (by kernel_rfl) (by decide) (by decide +kernel) ?_ | refine RB_take true [15] 3 (by rfl) (by kernel_rfl) (by decide) (by decide +kernel) ?_ | refine RB_take false [16, 20] 1 (by rfl) (by kernel_rfl) (by decide) (by decide +kernel) ?_ | refine RB_exec 21 _ (by rfl) (by decide +kernel) (by decide +kernel) ?_ | refine RB_done (by decide +kernel) ?_); try simp (maxSteps := 1000000) (disch := first | omega | rfl | decide | (simp only [List.length_cons, List.length_nil, List.length_append, LV] <;> omega)) only [go_sem, Nat.reduceAdd, Int.reduceAdd, Int.reduceSub, Int.reduceMul, Bool.not_true, Bool.not_false, hor, hi1, hpl, ha, upd_pre])))) | refine WA_seq ?_ | refine WA_block ?_ | (refine WA_skip ?_; try simp only [go_sem]) | (refine WA_ret ?_; try simp only [go_sem]) | refine WA_ct rfl ?_ | refine WA_cf rfl ?_))
          (exact sS0)
        · (refine sN (And.intro @pw_succ @hw) ?_)
          rw [show (i * 4 + j) * 256 + (pw e + pw e) = (i * 4 + j) * 256 + pw (e + 1) by rw [← pw_succ]; omega]
          (exact sS0)
      · (refine sN (show decide (pw 8 < 256) = false from by decide) ?_)
        rw [show (i * 4 + j) * 256 + pw 8 = (i * 4 + (j + 1)) * 256 by unfold pw; omega]
        (exact sS0)
    · (refine sN0 ?_)
      rw [show (i + 1) * 4 * 256 = (i * 4 + 4) * 256 by omega]
      (exact sS0)
  · (refine sN0 ?_)
    rw [Bs_pre]
    (exact sR0)
theorem newMixer_ac {m : Nat} (h0 : 256 ≤ m) (h1 : m < 512) (a : Nat → UInt8) (h : List Blk) : AC Tryz.prog 69 [.int .i64 m, .agg (Bs 16 a).toArray] h (pt h.length 0) (h ++ [⟨Bs 4096 (mixT m a), true⟩]) := by
  (refine AC_gc [1] (newMixer0_ac h0 h1 a h) (by decide) ?_ ?_ ?_; (focus (repeat (first | exact trivial | (refine And.intro ⟨_, rfl, ?_⟩ ?_; (focus first | (refine Fit_plain ?_; simp only [go_sem, List.all_append, List.all_cons, List.all_nil, Bool.and_self]; done) | exact Fit_nil rfl | exact Fit_dead | (refine Fit_eq ?_ ?_; (focus simp only [go_sem, List.all_append, List.all_cons, List.all_nil, Bool.and_self]); (focus (first | rfl | (simp only [Int.natCast_add, Int.natCast_one, Int.natCast_zero, Int.cast_ofNat_Int, Nat.add_zero]; done) | (simp only [Int.natCast_add, Int.natCast_one, Int.natCast_zero, Int.cast_ofNat_Int, Nat.add_zero]; rfl))))))))); (focus first | (refine renV_sl ?_; first | (rw [rhoF_new0]; rfl) | (rw [rhoF_new]; rfl) | (rw [rhoF_old]; first | assumption | omega)) | (refine renV_pt ?_; first | (rw [rhoF_new0]; rfl) | (rw [rhoF_new]; rfl) | (rw [rhoF_old]; first | assumption | omega)) | (refine renV_two ?_ ?_; (focus first | (refine ren1_sl ?_; first | (rw [rhoF_new0]; rfl) | (rw [rhoF_new]; rfl) | (rw [rhoF_old]; first | assumption | omega)) | rfl); (focus rfl)) | rfl | (refine (renV_plain ?_).symm; first | rfl | (refine plain_agg ?_; simp only [go_sem, List.all_append, List.all_cons, List.all_nil, Bool.and_self]; done))); (focus first | (simp only [wfV, wf1, wfC, List.length_append, List.length_cons, List.length_nil]; omega) | (refine wfV_two ?_ ?_; (focus simp only [wf1, wfC, List.length_append, List.length_cons, List.length_nil]; omega); (focus trivial)) | (refine plainV_wf ?_; (focus first | rfl | (refine plain_agg ?_; simp only [go_sem, List.all_append, List.all_cons, List.all_nil, Bool.and_self]; done)); done)))

end Go.Proofs.YtkdpjkpedklbpaaGreatDoor
/- Matrices: the reduction's second half undoes the first; mixing is additive. Plain. -/
namespace Go.Proofs.YtkdpjkpedklbpaaGreatDoor
set_option linter.unusedSimpArgs false
set_option linter.unusedVariables false
set_option maxRecDepth 20000
set_option maxHeartbeats 1000000
open Go.Abs

/-- The sum of the first n products. -/
def dt (m : Nat) (r y : Nat → UInt8) : Nat → UInt8
  | 0 => 0
  | n + 1 => dt m r y n ^^^ tm m (r n) (y n)
theorem dt_cong {m : Nat} {r s y z : Nat → UInt8} : ∀ {n : Nat}, (∀ t, t < n → r t = s t) → (∀ t, t < n → y t = z t) → dt m r y n = dt m s z n
  | 0, _, _ => rfl
  | n + 1, h, h2 => by
    show dt m r y n ^^^ tm m (r n) (y n) = dt m s z n ^^^ tm m (s n) (z n)
    rw [dt_cong (fun t ht => h t (by omega)) (fun t ht => h2 t (by omega)), h n (by omega), h2 n (by omega)]
theorem xor4 (a b c d : UInt8) : (a ^^^ b) ^^^ (c ^^^ d) = (a ^^^ c) ^^^ (b ^^^ d) := by
  rw [UInt8.xor_assoc, UInt8.xor_assoc, ← UInt8.xor_assoc b c d, ← UInt8.xor_assoc c b d, UInt8.xor_comm b c]
section
variable {m : Nat} (h0 : 256 ≤ m) (h1 : m < 512)
include h0 h1
theorem dt_xor (r s y : Nat → UInt8) : ∀ n, dt m (fun t => r t ^^^ s t) y n = dt m r y n ^^^ dt m s y n
  | 0 => UInt8.xor_self.symm
  | n + 1 => by
    show dt m (fun t => r t ^^^ s t) y n ^^^ tm m (r n ^^^ s n) (y n) = (dt m r y n ^^^ tm m (r n) (y n)) ^^^ (dt m s y n ^^^ tm m (s n) (y n))
    rw [dt_xor r s y n, tm_xorL h0 h1, xor4]
theorem dt_scl (r y : Nat → UInt8) (v : UInt8) : ∀ n, dt m (fun t => tm m (r t) v) y n = tm m (dt m r y n) v
  | 0 => (tm_zero m v).symm
  | n + 1 => by
    show dt m (fun t => tm m (r t) v) y n ^^^ tm m (tm m (r n) v) (y n) = tm m (dt m r y n ^^^ tm m (r n) (y n)) v
    rw [dt_scl r y v n, tm_xorL h0 h1, tm_assoc h0 h1, tm_comm h0 h1 v, ← tm_assoc h0 h1]
theorem dt_sclL (r y : Nat → UInt8) (f : UInt8) : ∀ n, dt m (fun t => tm m f (r t)) y n = tm m f (dt m r y n)
  | 0 => (tm_zeroR m f).symm
  | n + 1 => by
    show dt m (fun t => tm m f (r t)) y n ^^^ tm m (tm m f (r n)) (y n) = tm m f (dt m r y n ^^^ tm m (r n) (y n))
    rw [dt_sclL r y f n, tm_xor, tm_assoc h0 h1]
end
/-- Row i of a matrix times a column. -/
def D (m : Nat) (x z : Nat → UInt8) (i : Nat) : UInt8 := dt m (fun t => x (i * 4 + t)) z 4
theorem swp_at (x : Nat → UInt8) {p k i t : Nat} (ht : t < 4) : swp x p k (i * 4 + t) = if i = k then x (p * 4 + t) else if i = p then x (k * 4 + t) else x (i * 4 + t) := by
  unfold swp
  by_cases hk : i = k
  · subst hk
    rw [if_pos rfl]
    show (if i * 4 ≤ i * 4 + t ∧ i * 4 + t < i * 4 + 4 then x (p * 4 + (i * 4 + t - i * 4)) else _) = _
    rw [if_pos (by omega)]; congr 1; omega
  · rw [over_out (by omega), if_neg hk]
    by_cases hp : i = p
    · subst hp
      rw [if_pos rfl]
      show (if i * 4 ≤ i * 4 + t ∧ i * 4 + t < i * 4 + 4 then x (k * 4 + (i * 4 + t - i * 4)) else _) = _
      rw [if_pos (by omega)]; congr 1; omega
    · rw [over_out (by omega), if_neg hp]
theorem scl_row (m : Nat) (x : Nat → UInt8) (v : UInt8) {k i t : Nat} (ht : t < 4) : scl m x k v 4 (i * 4 + t) = if i = k then tm m (x (k * 4 + t)) v else x (i * 4 + t) := by
  unfold scl
  by_cases hk : i = k
  · subst hk
    rw [if_pos rfl]
    show (if i * 4 ≤ i * 4 + t ∧ i * 4 + t < i * 4 + 4 then tm m (x (i * 4 + (i * 4 + t - i * 4))) v else _) = _
    rw [if_pos (by omega), show i * 4 + t - i * 4 = t by omega]
  · rw [over_out (by omega), if_neg hk]
theorem elm_row (m : Nat) (f : UInt8) (x : Nat → UInt8) {k r i t : Nat} (ht : t < 4) : elm m f k r x 4 (i * 4 + t) = if i = r then x (r * 4 + t) ^^^ tm m f (x (k * 4 + t)) else x (i * 4 + t) := by
  unfold elm
  by_cases hk : i = r
  · subst hk
    rw [if_pos rfl]
    show (if i * 4 ≤ i * 4 + t ∧ i * 4 + t < i * 4 + 4 then x (i * 4 + (i * 4 + t - i * 4)) ^^^ tm m f (x (k * 4 + (i * 4 + t - i * 4))) else _) = _
    rw [if_pos (by omega), show i * 4 + t - i * 4 = t by omega]
  · rw [over_out (by omega), if_neg hk]
theorem D_swp (m : Nat) (x z : Nat → UInt8) (p k i : Nat) : D m (swp x p k) z i = if i = k then D m x z p else if i = p then D m x z k else D m x z i := by
  unfold D
  by_cases hk : i = k
  · rw [if_pos hk]; exact dt_cong (fun t ht => by rw [swp_at x ht, if_pos hk]) (fun _ _ => rfl)
  · rw [if_neg hk]
    by_cases hp : i = p
    · rw [if_pos hp]; exact dt_cong (fun t ht => by rw [swp_at x ht, if_neg hk, if_pos hp]) (fun _ _ => rfl)
    · rw [if_neg hp]; exact dt_cong (fun t ht => by rw [swp_at x ht, if_neg hk, if_neg hp]) (fun _ _ => rfl)
section
variable {m : Nat} (h0 : 256 ≤ m) (h1 : m < 512)
include h0 h1
theorem D_scl (x z : Nat → UInt8) (v : UInt8) (k i : Nat) : D m (scl m x k v 4) z i = if i = k then tm m (D m x z k) v else D m x z i := by
  unfold D
  by_cases hk : i = k
  · rw [if_pos hk, ← dt_scl h0 h1]; exact dt_cong (fun t ht => by rw [scl_row m x v ht, if_pos hk]) (fun _ _ => rfl)
  · rw [if_neg hk]; exact dt_cong (fun t ht => by rw [scl_row m x v ht, if_neg hk]) (fun _ _ => rfl)
theorem D_elm (x z : Nat → UInt8) (f : UInt8) (k r i : Nat) : D m (elm m f k r x 4) z i = if i = r then D m x z r ^^^ tm m f (D m x z k) else D m x z i := by
  unfold D
  by_cases hk : i = r
  · rw [if_pos hk, ← dt_sclL h0 h1, ← dt_xor h0 h1]; exact dt_cong (fun t ht => by rw [elm_row m f x ht, if_pos hk]) (fun _ _ => rfl)
  · rw [if_neg hk]; exact dt_cong (fun t ht => by rw [elm_row m f x ht, if_neg hk]) (fun _ _ => rfl)
/-- The same steps on both halves keep their images alike. -/
theorem elN_D {a b v y : Nat → UInt8} {k : Nat} (hk : k < 4) (h : ∀ i, i < 4 → D m b v i = D m a y i) : ∀ r, r ≤ 4 → ∀ i, i < 4 → D m (elN m k a b r).2 v i = D m (elN m k a b r).1 y i
  | 0, _, i, hi => h i hi
  | r + 1, hr, i, hi => by
    have ih := elN_D hk h r (by omega)
    by_cases hrk : r = k
    · subst hrk; rw [elN_same]; exact ih i hi
    · rw [elN_other hrk]
      show D m (elm m _ k r _ 4) v i = D m (elm m _ k r _ 4) y i
      rw [D_elm h0 h1, D_elm h0 h1, ih i hi, ih k hk, ih r (by omega)]
theorem stepR_D {k : Nat} {s : RS} {v y : Nat → UInt8} (hk : k < 4) (hp : piv s.a k < 4) (h : ∀ i, i < 4 → D m s.b v i = D m s.a y i) : ∀ i, i < 4 → D m (stepR m k s).b v i = D m (stepR m k s).a y i := by
  refine elN_D h0 h1 hk (fun i hi => ?_) 4 (Nat.le_refl _)
  have hs : ∀ i, i < 4 → D m (swp s.b (piv s.a k) k) v i = D m (swp s.a (piv s.a k) k) y i := fun i hi => by
    rw [D_swp, D_swp, h i hi, h _ hp, h k hk]
  rw [D_scl h0 h1, D_scl h0 h1, hs i hi, hs k hk]
omit h0 h1 in
theorem sing_piv {a : Nat → UInt8} : ∀ {n : Nat}, sing m a n = false → ∀ k, k < n → piv (rs m a k).a k ≠ 4
  | 0, _, k, hk => absurd hk (by omega)
  | n + 1, h, k, hk => by
    rw [sing, Bool.or_eq_false_iff] at h
    by_cases e : k = n
    · subst e; simpa using h.2
    · exact sing_piv h.1 k (by omega)
theorem D_unit (v : Nat → UInt8) {i : Nat} (hi : i < 4) : D m unitF v i = v i := by
  have e : ∀ t, t < 4 → unitF (i * 4 + t) = if t = i then 1 else 0 := fun t ht => by
    unfold unitF unitP
    by_cases h : t = i
    · rw [if_pos h, if_pos (by omega)]
    · rw [if_neg h, if_neg (by omega)]
  show 0 ^^^ tm m (unitF (i * 4 + 0)) (v 0) ^^^ tm m (unitF (i * 4 + 1)) (v 1) ^^^ tm m (unitF (i * 4 + 2)) (v 2) ^^^ tm m (unitF (i * 4 + 3)) (v 3) = v i
  rw [e 0 (by omega), e 1 (by omega), e 2 (by omega), e 3 (by omega)]
  have hcase : i = 0 ∨ i = 1 ∨ i = 2 ∨ i = 3 := by omega
  rcases hcase with rfl | rfl | rfl | rfl <;> simp [tm_zero, tm_one h0 h1]
theorem rs_D (a y : Nat → UInt8) : ∀ k, k ≤ 4 → sing m a k = false → ∀ i, i < 4 → D m (rs m a k).b (D m a y) i = D m (rs m a k).a y i
  | 0, _, _, i, hi => D_unit h0 h1 _ hi
  | k + 1, hk, hs, i, hi => by
    have hp := sing_piv hs k (by omega)
    have hle := piv_le (rs m a k).a (show k < 4 by omega)
    rw [sing, Bool.or_eq_false_iff] at hs
    exact stepR_D h0 h1 (by omega) (by omega) (rs_D a y k (by omega) hs.1) i hi
end
/-- The first k columns are the unit matrix's. -/
def Un (a : Nat → UInt8) (k : Nat) : Prop := ∀ i, i < 4 → ∀ j, j < k → a (i * 4 + j) = if i = j then 1 else 0
section
variable {m : Nat} (h0 : 256 ≤ m) (h1 : m < 512)
theorem elN_key {a b : Nat → UInt8} {k : Nat} (hk : k < 4) : ∀ r, r ≤ 4 → ∀ t, t < 4 → (elN m k a b r).1 (k * 4 + t) = a (k * 4 + t)
  | 0, _, t, _ => rfl
  | r + 1, hr, t, ht => by
    by_cases hrk : r = k
    · subst hrk; rw [elN_same]; exact elN_key hk r (by omega) t ht
    · rw [elN_other hrk]
      show elm m _ k r _ 4 (k * 4 + t) = _
      rw [elm_row m _ _ ht, if_neg (by omega)]
      exact elN_key hk r (by omega) t ht
theorem elN_lo {a b : Nat → UInt8} {k j : Nat} (hk : k < 4) (hj : j < k) (hz : a (k * 4 + j) = 0) : ∀ r, r ≤ 4 → ∀ i, i < 4 → (elN m k a b r).1 (i * 4 + j) = a (i * 4 + j)
  | 0, _, i, _ => rfl
  | r + 1, hr, i, hi => by
    have ih := elN_lo (b := b) hk hj hz r (by omega)
    by_cases hrk : r = k
    · subst hrk; rw [elN_same]; exact ih i hi
    · rw [elN_other hrk]
      show elm m _ k r _ 4 (i * 4 + j) = _
      rw [elm_row m _ _ (by omega)]
      by_cases hir : i = r
      · subst hir
        rw [if_pos rfl, elN_key hk i (by omega) j (by omega), hz, tm_zeroR, UInt8.xor_zero]
        exact ih i hi
      · rw [if_neg hir]; exact ih i hi
include h0 h1 in
theorem elN_col {a b : Nat → UInt8} {k : Nat} (hk : k < 4) (hz : a (k * 4 + k) = 1) : ∀ r, r ≤ 4 → ∀ i, i < r → i ≠ k → (elN m k a b r).1 (i * 4 + k) = 0
  | 0, _, i, hi, _ => absurd hi (by omega)
  | r + 1, hr, i, hi, hik => by
    by_cases hrk : r = k
    · subst hrk; rw [elN_same]; exact elN_col hk hz r (by omega) i (by omega) hik
    · rw [elN_other hrk]
      show elm m _ k r _ 4 (i * 4 + k) = _
      rw [elm_row m _ _ hk]
      by_cases hir : i = r
      · subst hir
        rw [if_pos rfl, elN_key hk i (by omega) k hk, hz, tm_oneR h0 h1, UInt8.xor_self]
      · rw [if_neg hir]; exact elN_col hk hz r (by omega) i (by omega) hik
include h0 h1 in
theorem stepR_U (hf : fieldB m = true) {k : Nat} {s : RS} (hk : k < 4) (hp : piv s.a k < 4) (h : Un s.a k) : Un (stepR m k s).a (k + 1) := by
  have hle := (piv_le s.a hk).1
  have hnz := piv_end hk hp
  generalize hpe : piv s.a k = p at hp hle hnz
  have w : swp s.a p k (k * 4 + k) = s.a (p * 4 + k) := by rw [swp_at s.a hk, if_pos rfl]
  have hw : s.a (p * 4 + k) ≠ 0 := by simpa using hnz
  have hs : Un (swp s.a p k) k := fun i hi j hj => by
    rw [swp_at s.a (by omega)]
    by_cases hik : i = k
    · rw [if_pos hik, h p hp j hj, if_neg (by omega), if_neg (by omega)]
    · rw [if_neg hik]
      by_cases hip : i = p
      · rw [if_pos hip, h k hk j hj, if_neg (by omega), if_neg (by omega)]
      · rw [if_neg hip, h i hi j hj]
  have hc : Un (scl m (swp s.a p k) k (inv m (swp s.a p k (k * 4 + k))) 4) k := fun i hi j hj => by
    rw [scl_row m _ _ (by omega)]
    by_cases hik : i = k
    · rw [if_pos hik, hs k hk j hj, if_neg (by omega), if_neg (by omega), tm_zero]
    · rw [if_neg hik, hs i hi j hj]
  have h11 : scl m (swp s.a p k) k (inv m (swp s.a p k (k * 4 + k))) 4 (k * 4 + k) = 1 := by
    rw [scl_row m _ _ hk, if_pos rfl, w, tm_inv h0 h1 hf hw]
  intro i hi j hj
  unfold stepR
  rw [hpe]
  by_cases hjk : j < k
  · show (elN m k _ _ 4).1 (i * 4 + j) = _
    rw [elN_lo hk hjk (by rw [hc k hk j hjk, if_neg (by omega)]) 4 (by omega) i hi, hc i hi j hjk]
  · have hjk : j = k := by omega
    subst hjk
    show (elN m j _ _ 4).1 (i * 4 + j) = _
    by_cases hij : i = j
    · subst hij
      rw [if_pos rfl, elN_key hi 4 (by omega) i hi, h11]
    · rw [if_neg hij, elN_col h0 h1 hk h11 4 (by omega) i hi hij]
include h0 h1 in
theorem rs_U (hf : fieldB m = true) (a : Nat → UInt8) : ∀ k, k ≤ 4 → sing m a k = false → Un (rs m a k).a k
  | 0, _, _ => fun i _ j hj => absurd hj (by omega)
  | k + 1, hk, hs => by
    have hp := sing_piv hs k (by omega)
    have hle := piv_le (rs m a k).a (show k < 4 by omega)
    rw [sing, Bool.or_eq_false_iff] at hs
    exact stepR_U h0 h1 hf (by omega) (by omega) (rs_U hf a k (by omega) hs.1)
include h0 h1 in
/-- The inverse undoes a matrix. -/
theorem backF_D (hf : fieldB m = true) {a : Nat → UInt8} (hd : detF m a ≠ 0) (y : Nat → UInt8) {i : Nat} (hi : i < 4) : D m (backF m a) (D m a y) i = y i := by
  have hs : sing m a 4 = false := by
    cases hs : sing m a 4 with
    | false => rfl
    | true => exact absurd (by unfold detF; rw [hs]; rfl) hd
  have hb : backF m a = (rs m a 4).b := by unfold backF; rw [hs]; rfl
  rw [hb, rs_D h0 h1 a y 4 (by omega) hs i hi]
  have hU := rs_U h0 h1 hf a 4 (by omega) hs
  rw [← D_unit h0 h1 y hi]
  unfold D
  refine dt_cong (fun t ht => ?_) (fun _ _ => rfl)
  rw [hU i hi t ht]
  unfold unitF unitP
  by_cases h : i = t
  · rw [if_pos h, if_pos (by omega)]
  · rw [if_neg h, if_neg (by omega)]
theorem mix_D (a b : Nat → UInt8) (c i : Nat) : mxP m a b c i 4 = D m a (fun t => b (4 * c + t)) i := rfl
include h0 h1 in
/-- Mixing is undone by mixing with the inverse. -/
theorem mix_back (hf : fieldB m = true) {a : Nat → UInt8} (hd : detF m a ≠ 0) (x : Nat → UInt8) {n : Nat} (hn : n < 16) : mixF m (backF m a) (mixF m a x) n = x n := by
  show mxP m (backF m a) (mixF m a x) (n / 4) (n % 4) 4 = x n
  rw [mix_D]
  have e := backF_D h0 h1 hf hd (fun t => x (4 * (n / 4) + t)) (show n % 4 < 4 by omega)
  rw [show 4 * (n / 4) + n % 4 = n by omega] at e
  rw [← e]
  unfold D
  refine dt_cong (fun _ _ => rfl) (fun t ht => ?_)
  show mxP m a x ((4 * (n / 4) + t) / 4) ((4 * (n / 4) + t) % 4) 4 = _
  rw [show (4 * (n / 4) + t) / 4 = n / 4 by omega, show (4 * (n / 4) + t) % 4 = t by omega]
  rfl
end
end Go.Proofs.YtkdpjkpedklbpaaGreatDoor
/- Inverses of permutations undo them; compositions are permutations. -/
namespace Go.Proofs.YtkdpjkpedklbpaaGreatDoor
set_option linter.unusedSimpArgs false
set_option linter.unusedVariables false
set_option maxRecDepth 20000
set_option maxHeartbeats 1000000
open Go.Abs

/-- The inverse leads back. -/
theorem invP_at {f : Nat → UInt8} {n : Nat} (hn : n ≤ 256) (hi : ∀ i j, i < n → j < n → f i = f j → i = j) : ∀ k, k ≤ n → ∀ j, j < k → invP f k (f j).toNat = UInt8.ofNat j
  | 0, _, j, hj => absurd hj (Nat.not_lt_zero j)
  | k + 1, hk, j, hj => by
    show upd (invP f k) (f k).toNat (UInt8.ofNat k) (f j).toNat = UInt8.ofNat j
    unfold upd
    by_cases e : j = k
    · subst e; rw [if_pos rfl]
    · rw [if_neg fun h => e (hi j k (by omega) (by omega) (UInt8.toNat_inj.1 h))]
      exact invP_at hn hi k (by omega) j (by omega)
theorem plOk_inj {p : Nat → UInt8} (h : plOk p = true) : ∀ i j, i < 16 → j < 16 → p i = p j → i = j := by
  unfold plOk at h
  rw [Bool.and_eq_true] at h
  exact (twice_iff p 16).1 (by simpa using h.2)
theorem plOk_surj {p : Nat → UInt8} (h : plOk p = true) {y : Nat} (hy : y < 16) : ∃ i, i < 16 ∧ (p i).toNat = y :=
  inj_surj 16 (fun i => (p i).toNat) (fun i hi => plOk_lt h hi) (fun i j hi hj e => plOk_inj h i j hi hj (UInt8.toNat_inj.1 e)) y hy
theorem invP_pl {p : Nat → UInt8} (h : plOk p = true) {j : Nat} (hj : j < 16) : invP p 16 (p j).toNat = UInt8.ofNat j :=
  invP_at (by omega) (plOk_inj h) 16 (Nat.le_refl _) j hj
theorem pl_invP {p : Nat → UInt8} (h : plOk p = true) {i : Nat} (hi : i < 16) : (p (invP p 16 i).toNat).toNat = i := by
  obtain ⟨j, hj, rfl⟩ := plOk_surj h hi
  rw [invP_pl h hj, u8_ofNat_toNat (by omega)]
/-- Moving back leaves a block. -/
theorem mov_back {p : Nat → UInt8} (h : plOk p = true) (b : Nat → UInt8) {i : Nat} (hi : i < 16) : movF (invP p 16) (movF p b) i = b i := by
  show b (p (invP p 16 i).toNat).toNat = b i
  rw [pl_invP h hi]
theorem boxOk_inj {f : Nat → UInt8} (h : boxOk f = true) : ∀ i j, i < 256 → j < 256 → f i = f j → i = j := by
  unfold boxOk at h
  exact (twice_iff f 256).1 (by simpa using h)
theorem invP_box {f : Nat → UInt8} (h : boxOk f = true) (x : UInt8) : invP f 256 (f x.toNat).toNat = x := by
  rw [invP_at (Nat.le_refl _) (boxOk_inj h) 256 (Nat.le_refl _) x.toNat (u8_lt x)]
  exact UInt8.ofNat_toNat
theorem mixF_cong {m : Nat} {a b x y : Nat → UInt8} (h : ∀ i, i < 16 → a i = b i) (h2 : ∀ i, i < 16 → x i = y i) {n : Nat} (hn : n < 16) : mixF m a x n = mixF m b y n := by
  show mxP m a x (n / 4) (n % 4) 4 = mxP m b y (n / 4) (n % 4) 4
  rw [mix_D, mix_D]
  unfold D
  exact dt_cong (fun t ht => h _ (by omega)) (fun t ht => h2 _ (by omega))
end Go.Proofs.YtkdpjkpedklbpaaGreatDoor
/- Texts of bytes, powers of boxes. Plain. -/
namespace Go.Proofs.YtkdpjkpedklbpaaGreatDoor
set_option linter.unusedSimpArgs false
set_option linter.unusedVariables false
set_option maxRecDepth 20000
set_option maxHeartbeats 1000000
open Go.Abs

def hexA : Array UInt8 := #[48, 49, 50, 51, 52, 53, 54, 55, 56, 57, 97, 98, 99, 100, 101, 102]
def hexC (n : Nat) : UInt8 := hexA.getD n 0
/-- The text of the first n bytes. -/
def hx (f : Nat → UInt8) : Nat → List UInt8
  | 0 => []
  | k + 1 => hx f k ++ [hexC ((f k).toNat / 16), hexC ((f k).toNat % 16)]
theorem hx_len (f : Nat → UInt8) : ∀ n, (hx f n).length = 2 * n
  | 0 => rfl
  | n + 1 => by rw [hx, List.length_append, hx_len f n]; show 2 * n + 2 = _; omega
theorem hx_get (f : Nat → UInt8) : ∀ n i, i < 2 * n → (hx f n)[i]? = some (hexC (if i % 2 = 0 then (f (i / 2)).toNat / 16 else (f (i / 2)).toNat % 16))
  | 0, i, h => absurd h (by omega)
  | n + 1, i, h => by
    rw [hx]
    by_cases hi : i < 2 * n
    · rw [List.getElem?_append_left (by rw [hx_len]; exact hi)]; exact hx_get f n i hi
    · rw [List.getElem?_append_right (by rw [hx_len]; omega), hx_len]
      rcases (show i = 2 * n ∨ i = 2 * n + 1 by omega) with rfl | rfl
      · rw [Nat.sub_self, if_pos (by omega), show 2 * n / 2 = n by omega]; rfl
      · rw [show 2 * n + 1 - 2 * n = 1 by omega, if_neg (by omega), show (2 * n + 1) / 2 = n by omega]; rfl
theorem hx_congr {f g : Nat → UInt8} : ∀ {n : Nat}, (∀ i, i < n → f i = g i) → hx f n = hx g n
  | 0, _ => rfl
  | n + 1, h => by rw [hx, hx, hx_congr (fun i hi => h i (by omega)), h n (by omega)]
def digOk (c : UInt8) : Bool := (decide (48 ≤ c) && decide (c ≤ 57)) || (decide (97 ≤ c) && decide (c ≤ 102))
def digV (c : UInt8) : UInt8 := if decide (48 ≤ c) && decide (c ≤ 57) then c - 48 else c - 97 + 10
theorem dig_hex : ∀ n, n < 16 → digOk (hexC n) = true ∧ (digV (hexC n)).toNat = n := by decide +kernel
theorem hex_dig0 : ∀ n, n < 256 → digOk (UInt8.ofNat n) = true → hexC (digV (UInt8.ofNat n)).toNat = UInt8.ofNat n ∧ (digV (UInt8.ofNat n)).toNat < 16 := by decide +kernel
theorem hex_dig {c : UInt8} (h : digOk c = true) : hexC (digV c).toNat = c ∧ (digV c).toNat < 16 := by
  have := hex_dig0 c.toNat (u8_lt c)
  rw [UInt8.ofNat_toNat] at this
  exact this h
/-- A sign of a text. -/
def ch (s : ByteArray) (i : Nat) : UInt8 := s.data.getD i 0
def gdP (s : ByteArray) (k : Nat) : Bool := digOk (ch s (2 * k)) && digOk (ch s (2 * k + 1))
def unV (s : ByteArray) (k : Nat) : UInt8 := UInt8.ofNat (16 * (digV (ch s (2 * k))).toNat + (digV (ch s (2 * k + 1))).toNat)
def hexOk (s : ByteArray) : Bool := s.size % 2 == 0 && allT (gdP s) (s.size / 2)
def hxT (f : Nat → UInt8) (n : Nat) : ByteArray := ⟨(hx f n).toArray⟩
theorem hxT_size (f : Nat → UInt8) (n : Nat) : (hxT f n).size = 2 * n := hx_len f n
theorem hxT_ch (f : Nat → UInt8) (n : Nat) {i : Nat} (hi : i < 2 * n) : ch (hxT f n) i = hexC (if i % 2 = 0 then (f (i / 2)).toNat / 16 else (f (i / 2)).toNat % 16) := by
  unfold ch hxT
  rw [Array.getD_eq_getD_getElem?, List.getElem?_toArray, hx_get f n i hi]; rfl
theorem hxT_good (f : Nat → UInt8) (n : Nat) : hexOk (hxT f n) = true ∧ ∀ k, k < n → unV (hxT f n) k = f k := by
  have hk : ∀ k, k < n → gdP (hxT f n) k = true ∧ unV (hxT f n) k = f k := fun k hk => by
    have hlt := u8_lt (f k)
    have e0 := hxT_ch f n (i := 2 * k) (by omega)
    have e1 := hxT_ch f n (i := 2 * k + 1) (by omega)
    rw [if_pos (by omega), show 2 * k / 2 = k by omega] at e0
    rw [if_neg (by omega), show (2 * k + 1) / 2 = k by omega] at e1
    have d0 := dig_hex ((f k).toNat / 16) (by omega)
    have d1 := dig_hex ((f k).toNat % 16) (by omega)
    unfold gdP unV
    rw [e0, e1, d0.1, d1.1, d0.2, d1.2]
    exact ⟨rfl, by rw [show 16 * ((f k).toNat / 16) + (f k).toNat % 16 = (f k).toNat by omega, UInt8.ofNat_toNat]⟩
  refine ⟨?_, fun k h => (hk k h).2⟩
  unfold hexOk
  rw [hxT_size, show 2 * n % 2 = 0 by omega, show 2 * n / 2 = n by omega]
  exact List.all_eq_true.2 fun k h => (hk k (List.mem_range.1 h)).1
theorem hxT_congr {f g : Nat → UInt8} {n : Nat} (h : ∀ i, i < n → f i = g i) : hxT f n = hxT g n := by unfold hxT; rw [hx_congr h]
/-- A text that is a box. -/
def parOk (s : ByteArray) : Bool := hexOk s && s.size == 512
end Go.Proofs.YtkdpjkpedklbpaaGreatDoor
/- Texts of bytes: signs and texts. -/
namespace Go.Proofs.YtkdpjkpedklbpaaGreatDoor
set_option linter.unusedSimpArgs false
set_option linter.unusedVariables false
set_option maxRecDepth 20000
set_option maxHeartbeats 1000000
open Go.Abs

theorem tab16 {P : Program} {T : TypeId} (hu : P.underlying T = some .string) (x : UInt8) (hx : x.toNat < 16) : indexA P T (.string ⟨#[48, 49, 50, 51, 52, 53, 54, 55, 56, 57, 97, 98, 99, 100, 101, 102]⟩) (B x) = some (B (hexC x.toNat)) := by
  have hs : (⟨#[48, 49, 50, 51, 52, 53, 54, 55, 56, 57, 97, 98, 99, 100, 101, 102]⟩ : ByteArray).size = 16 := rfl
  rw [ix_str_B hu, hs, aidx_nat hx, chrC_some (by rw [hs]; exact hx)]; rfl
theorem nib_hi : ∀ n, n < 256 → (UInt8.ofNat (n >>> 4)).toNat = n / 16 := by decide +kernel
theorem nib_lo : ∀ n, n < 256 → (UInt8.ofNat n &&& 15).toNat = n % 16 := by decide +kernel
theorem hi16 (x : UInt8) : (x / 16).toNat = x.toNat / 16 := UInt8.toNat_div x 16
theorem lo16 (x : UInt8) : (x % 16).toNat = x.toNat % 16 := UInt8.toNat_mod x 16
theorem shr16 (x : UInt8) : (UInt8.ofNat (x.toNat >>> 4)).toNat = x.toNat / 16 := nib_hi x.toNat (u8_lt x)
theorem and15 (x : UInt8) : (x &&& 15).toNat = x.toNat % 16 := by
  have := nib_lo x.toNat (u8_lt x)
  rwa [UInt8.ofNat_toNat] at this
theorem sub2 (v w : Value) : sub [v, w] 0 2 = [v, w] := rfl
theorem Bl_hx (f : Nat → UInt8) (k : Nat) : Bl (hx f k) ++ [B (hexC ((f k).toNat / 16)), B (hexC ((f k).toNat % 16))] = Bl (hx f (k + 1)) := by
  unfold Bl; rw [hx, List.map_append]; rfl
/-- What a digit is worth. -/
def digI (c : UInt8) : Int := if digOk c then ((digV c).toNat : Int) else -1
theorem digI_ac (c : UInt8) (h : List Blk) : AC Tryz.prog 90 [B c] h (.tuple #[B (if digOk c then digV c else 0), .bool (digOk c)]) h := by
  (refine AC_begin (fun _ _ => Tryz.call90 _ _) Tryz.func90 rfl Tryz.ntmps90 Tryz.results90 (fun hwf => ?_); simp only [List.length_cons, List.length_nil, Nat.reduceAdd, Nat.reduceSub, List.replicate, List.cons_append, List.nil_append])
  cases e1 : decide (48 ≤ c) <;> cases e2 : decide (c ≤ 57) <;> cases e3 : decide (97 ≤ c) <;> cases e4 : decide (c ≤ 102)
  all_goals ((refine sN (And.intro @e1 (And.intro @e2 (And.intro @e3 (And.intro @e4 (And.intro (@yieldA_at 2 7) (@yieldA_at 2 16)))))) ?_))
  all_goals ((exact sR (And.intro @digOk.eq_1 (And.intro @digV.eq_1 (And.intro @e1 (And.intro @e2 (And.intro @e3 (And.intro @e4 (And.intro @Bool.and_true (And.intro @Bool.and_false (And.intro @Bool.or_true @Bool.or_false)))))))))))

theorem hexI_ac {h : List Blk} {b n : Nat} {f : Nat → UInt8} {r : Bool} (hb : h[b]? = some ⟨Bs n f, r⟩) (hn : n ≤ 1000000) : AC Tryz.prog 59 [sl b 0 n 1] h (.string (hxT f n)) h := by
  have hbl := blt hb
  (refine AC_begin (fun _ _ => Tryz.call59 _ _) Tryz.func59 rfl Tryz.ntmps59 Tryz.results59 (fun hwf => ?_); simp only [List.length_cons, List.length_nil, Nat.reduceAdd, Nat.reduceSub, List.replicate, List.cons_append, List.nil_append])
  (refine sN0 ?_)
  refine WA_forP (fun k => [(3, sl h.length 0 (2 * k) 1), (5, J), (6, J), (9, .int .i64 k), (10, J), (11, J), (12, J), (13, J), (14, J), (15, J), (16, J), (17, J), (18, J), (19, J), (20, J), (21, J), (22, J)]) (fun k => [(0, ⟨Bl (hx f k), true⟩)]) (n) ?_ ?_ ?_ <;> (try simp only [patT_cons, patT_nil, patL_cons, patL_nil, list_set_zero, list_set_succ, blk_set_zero, blk_set_succ])
  · (refine Drop_slots (by first | exact Nat.le_refl _ | simp) ?_; focus ((try simp only [JL_same, JL_J, JL_nil, Int.reduceAdd, Nat.sub_sub, Int.natCast_add, Int.natCast_one, Int.natCast_zero, Int.cast_ofNat_Int, Nat.add_zero, Bool.false_eq_true, if_false, if_true, hx]); (try exact JL_refl _)))
  · intro k hk
    have hx1 := tab16 (P := Tryz.prog) (T := 9) (by kernel_rfl) (UInt8.ofNat ((f k).toNat >>> 4)) (by rw [shr16]; have := u8_lt (f k); omega)
    have hx2 := tab16 (P := Tryz.prog) (T := 9) (by kernel_rfl) (f k &&& 15) (by rw [and15]; omega)
    have hsh : abin Tryz.prog .shr 5 (B (f k)) (.int .u64 4) = some (B (UInt8.ofNat ((f k).toNat >>> 4))) := abin_shr_B (f k) .u64 4
    rw [shr16] at hx1
    rw [and15] at hx2
    have hl := hx_len f k
    (repeat (first | ((first | (refine And.intro ?_ ?_; focus exact PLA) | refine WA_seq (WA_region ?_) | refine WA_region ?_ | refine WA_exit ?_); try simp (maxSteps := 1000000) (disch := first | omega | rfl | decide | (simp only [List.length_cons, List.length_nil, List.length_append, LV] <;> omega)) only [go_sem, Nat.reduceAdd, Int.reduceAdd, Int.reduceSub, Int.reduceMul, Bool.not_true, Bool.not_false, look_old hb, hsh, hx1, hx2, hl, sub2, Bl_hx]) | (refine (WA_rb (id := 5) [7, 8] (SubM.refl _) mixedOk ?_); simp only [List.size_toArray, List.length_cons, List.length_nil]; (repeat (first | ((first | (refine And.intro ?_ ?_; focus exact PLA) | refine RB_take false [0, 1, 2, 3, 4, 5, 6] 3 (by rfl) (by kernel_rfl) (by decide) (by decide +kernel) ?_ | refine RB_exec 7 _ (by rfl) (by decide +kernel) (by decide +kernel) ?_ | refine RB_exec 8 _ (by rfl) (by decide +kernel) (by decide +kernel) ?_ | refine RB_take false [9] 0 (by rfl) (by kernel_rfl) (by decide) (by decide +kernel) ?_ | refine RB_done (by decide +kernel) ?_); try simp (maxSteps := 1000000) (disch := first | omega | rfl | decide | (simp only [List.length_cons, List.length_nil, List.length_append, LV] <;> omega)) only [go_sem, Nat.reduceAdd, Int.reduceAdd, Int.reduceSub, Int.reduceMul, Bool.not_true, Bool.not_false, look_old hb, hsh, hx1, hx2, hl, sub2, Bl_hx])))) | refine WA_seq ?_ | refine WA_block ?_ | (refine WA_skip ?_; try simp only [go_sem]) | (refine WA_ret ?_; try simp only [go_sem]) | refine WA_ct rfl ?_ | refine WA_cf rfl ?_))
    (exact gC [2])
  · have hln := hx_len f n
    (refine sN0 ?_)
    (exact sR @hxT.eq_1)

theorem hexS_ac {h : List Blk} {b n : Nat} {f : Nat → UInt8} {r : Bool} (hb : h[b]? = some ⟨Bs n f, r⟩) (hn : n ≤ 1000000) : AC Tryz.prog 83 [sl b 0 n 1] h (.string (hxT f n)) h := by
  have hbl := blt hb
  (refine AC_begin (fun _ _ => Tryz.call83 _ _) Tryz.func83 rfl Tryz.ntmps83 Tryz.results83 (fun hwf => ?_); simp only [List.length_cons, List.length_nil, Nat.reduceAdd, Nat.reduceSub, List.replicate, List.cons_append, List.nil_append])
  (refine sN0 ?_)
  refine WA_forP (fun k => [(4, sl h.length 0 (2 * k) 1), (5, .int .i64 k), (6, J), (7, J), (8, J), (9, J), (10, J), (11, J), (12, J), (13, J), (14, J), (15, J), (16, J), (17, J), (18, J), (19, J), (20, J), (21, J), (22, J), (23, J), (24, J), (25, J), (26, J), (27, J), (28, J), (29, J)]) (fun k => [(0, ⟨Bl (hx f k), true⟩)]) (n) ?_ ?_ ?_ <;> (try simp only [patT_cons, patT_nil, patL_cons, patL_nil, list_set_zero, list_set_succ, blk_set_zero, blk_set_succ])
  · (refine Drop_slots (by first | exact Nat.le_refl _ | simp) ?_; focus ((try simp only [JL_same, JL_J, JL_nil, Int.reduceAdd, Nat.sub_sub, Int.natCast_add, Int.natCast_one, Int.natCast_zero, Int.cast_ofNat_Int, Nat.add_zero, Bool.false_eq_true, if_false, if_true, hx]); (try exact JL_refl _)))
  · intro k hk
    have hx1 := tab16 (P := Tryz.prog) (T := 9) (by kernel_rfl) (f k / 16) (by rw [hi16]; have := u8_lt (f k); omega)
    have hx2 := tab16 (P := Tryz.prog) (T := 9) (by kernel_rfl) (f k % 16) (by rw [lo16]; omega)
    rw [hi16] at hx1
    rw [lo16] at hx2
    have hl := hx_len f k
    (repeat (first | ((first | (refine And.intro ?_ ?_; focus exact PLA) | refine WA_seq (WA_region ?_) | refine WA_region ?_ | refine WA_exit ?_); try simp (maxSteps := 1000000) (disch := first | omega | rfl | decide | (simp only [List.length_cons, List.length_nil, List.length_append, LV] <;> omega)) only [go_sem, Nat.reduceAdd, Int.reduceAdd, Int.reduceSub, Int.reduceMul, Bool.not_true, Bool.not_false, look_old hb, hx1, hx2, hl, sub2, Bl_hx]) | (refine (WA_rb (id := 5) [15, 16] (SubM.refl _) mixedOk ?_); simp only [List.size_toArray, List.length_cons, List.length_nil]; (repeat (first | ((first | (refine And.intro ?_ ?_; focus exact PLA) | refine RB_take false [0, 1, 2, 3, 4, 8, 9, 10, 11] 9 (by rfl) (by kernel_rfl) (by decide) (by decide +kernel) ?_ | refine RB_take true [5, 12] 7 (by rfl) (by kernel_rfl) (by decide) (by decide +kernel) ?_ | refine RB_take false [6, 7, 13, 14] 3 (by rfl) (by kernel_rfl) (by decide) (by decide +kernel) ?_ | refine RB_exec 15 _ (by rfl) (by decide +kernel) (by decide +kernel) ?_ | refine RB_exec 16 _ (by rfl) (by decide +kernel) (by decide +kernel) ?_ | refine RB_take false [17] 0 (by rfl) (by kernel_rfl) (by decide) (by decide +kernel) ?_ | refine RB_done (by decide +kernel) ?_); try simp (maxSteps := 1000000) (disch := first | omega | rfl | decide | (simp only [List.length_cons, List.length_nil, List.length_append, LV] <;> omega)) only [go_sem, Nat.reduceAdd, Int.reduceAdd, Int.reduceSub, Int.reduceMul, Bool.not_true, Bool.not_false, look_old hb, hx1, hx2, hl, sub2, Bl_hx])))) | refine WA_seq ?_ | refine WA_block ?_ | (refine WA_skip ?_; try simp only [go_sem]) | (refine WA_ret ?_; try simp only [go_sem]) | refine WA_ct rfl ?_ | refine WA_cf rfl ?_))
    (exact gC [2])
  · have hln := hx_len f n
    (refine sN0 ?_)
    (exact sR @hxT.eq_1)

theorem bxtI_ac (f : Nat → UInt8) (h : List Blk) : AC Tryz.prog 58 [.agg (Bs 256 f).toArray] h (.string (hxT f 256)) h := by
  (refine AC_begin (fun _ _ => Tryz.call58 _ _) Tryz.func58 rfl Tryz.ntmps58 Tryz.results58 (fun hwf => ?_); simp only [List.length_cons, List.length_nil, Nat.reduceAdd, Nat.reduceSub, List.replicate, List.cons_append, List.nil_append])
  (refine sY0 @hexI_ac ?_)
  (exact sR0)

end Go.Proofs.YtkdpjkpedklbpaaGreatDoor
/- Draws for the law on boxes. -/
namespace Go.Proofs.YtkdpjkpedklbpaaGreatDoor
set_option linter.unusedSimpArgs false
set_option linter.unusedVariables false
set_option maxRecDepth 20000
set_option maxHeartbeats 1000000
open Go.Abs

theorem sg_at : ∀ x, x < 16 → ∃ c : ByteArray, c.size = 1 ∧ (([.string ⟨#[48]⟩, .string ⟨#[49]⟩, .string ⟨#[55]⟩, .string ⟨#[57]⟩, .string ⟨#[97]⟩, .string ⟨#[102]⟩, .string ⟨#[103]⟩, .string ⟨#[65]⟩, .string ⟨#[45]⟩, .string ⟨#[47]⟩, .string ⟨#[59]⟩, .string ⟨#[58]⟩, .string ⟨#[44]⟩, .string ⟨#[32]⟩, .string ⟨#[124]⟩, .string ⟨#[10]⟩] : List Value))[x]? = some (.string c)
  | 0, _ => ⟨⟨#[48]⟩, rfl, rfl⟩
  | 1, _ => ⟨⟨#[49]⟩, rfl, rfl⟩
  | 2, _ => ⟨⟨#[55]⟩, rfl, rfl⟩
  | 3, _ => ⟨⟨#[57]⟩, rfl, rfl⟩
  | 4, _ => ⟨⟨#[97]⟩, rfl, rfl⟩
  | 5, _ => ⟨⟨#[102]⟩, rfl, rfl⟩
  | 6, _ => ⟨⟨#[103]⟩, rfl, rfl⟩
  | 7, _ => ⟨⟨#[65]⟩, rfl, rfl⟩
  | 8, _ => ⟨⟨#[45]⟩, rfl, rfl⟩
  | 9, _ => ⟨⟨#[47]⟩, rfl, rfl⟩
  | 10, _ => ⟨⟨#[59]⟩, rfl, rfl⟩
  | 11, _ => ⟨⟨#[58]⟩, rfl, rfl⟩
  | 12, _ => ⟨⟨#[44]⟩, rfl, rfl⟩
  | 13, _ => ⟨⟨#[32]⟩, rfl, rfl⟩
  | 14, _ => ⟨⟨#[124]⟩, rfl, rfl⟩
  | 15, _ => ⟨⟨#[10]⟩, rfl, rfl⟩
  | n + 16, h => absurd h (by omega)
theorem ext_size (t : ByteArray) (a b : Nat) : (t.extract a b).size ≤ t.size := by rw [ByteArray.size_extract]; omega
theorem damage_aft {h : List Blk} {b : Nat} {cv : Value} (s : SrcAt h b cv) {t : ByteArray} (ht : t.size ≤ 999999) :
    ∃ (o : ByteArray) (h' : List Blk), o.size ≤ 1000000 ∧ Aft h h' b cv ∧ AC Tryz.prog 48 [pt b 0, .string t] h (.string o) h' := by
  have hbl := s.lt
  have a0 := s.more [⟨[.string ⟨#[48]⟩, .string ⟨#[49]⟩, .string ⟨#[55]⟩, .string ⟨#[57]⟩, .string ⟨#[97]⟩, .string ⟨#[102]⟩, .string ⟨#[103]⟩, .string ⟨#[65]⟩, .string ⟨#[45]⟩, .string ⟨#[47]⟩, .string ⟨#[59]⟩, .string ⟨#[58]⟩, .string ⟨#[44]⟩, .string ⟨#[32]⟩, .string ⟨#[124]⟩, .string ⟨#[10]⟩], true⟩]
  obtain ⟨x, h1, hx, a1, c1⟩ := next_aft a0.src (N := 16) (by omega) (by omega)
  have hS := a1.keep h.length ⟨[.string ⟨#[48]⟩, .string ⟨#[49]⟩, .string ⟨#[55]⟩, .string ⟨#[57]⟩, .string ⟨#[97]⟩, .string ⟨#[102]⟩, .string ⟨#[103]⟩, .string ⟨#[65]⟩, .string ⟨#[45]⟩, .string ⟨#[47]⟩, .string ⟨#[59]⟩, .string ⟨#[58]⟩, .string ⟨#[44]⟩, .string ⟨#[32]⟩, .string ⟨#[124]⟩, .string ⟨#[10]⟩], true⟩ (by omega) (by simp)
  obtain ⟨c, hc, hcx⟩ := sg_at x hx
  have A1 := a0.trans a1
  have n1 := A1.len
  by_cases ht0 : t.size = 0
  · have hb0 : (t.size == 0) = true := by rw [ht0]; rfl
    refine ⟨c, h1, by omega, A1, ?_⟩
    (refine AC_begin (fun _ _ => Tryz.call48 _ _) Tryz.func48 rfl Tryz.ntmps48 Tryz.results48 (fun hwf => ?_); simp only [List.length_cons, List.length_nil, Nat.reduceAdd, Nat.reduceSub, List.replicate, List.cons_append, List.nil_append])
    (refine sW (And.intro @hS (And.intro @hcx @hb0)) @c1 ?_)
    refine ret_full (by first | exact .inr rfl | exact .inl rfl) n1 ?_
    simp (maxSteps := 1000000) (disch := first | omega | rfl | decide | (simp only [List.length_cons, List.length_nil, List.length_append, LV] <;> omega)) only [go_sem, Nat.reduceAdd, Int.reduceAdd, Int.reduceSub, Int.reduceMul, Bool.not_true, Bool.not_false]
    try rfl
  · have hb0 : (t.size == 0) = false := by simpa using ht0
    obtain ⟨k, h2, hk, a2, c2⟩ := next_aft a1.src (N := t.size) (by omega) (by omega)
    obtain ⟨y, h3, hy, a3, c3⟩ := next_aft a2.src (N := 3) (by omega) (by omega)
    have A := (A1.trans a2).trans a3
    have hlen := A.len
    have e0 := ext_size t 0 k
    have e1 := ext_size t (k + 1) t.size
    have e2 := ext_size t k t.size
    have s0 : (t.extract 0 k ++ c).size = (t.extract 0 k).size + c.size := ByteArray.size_append
    by_cases h0 : y = 0
    · subst h0
      have s1 : (t.extract 0 k ++ c ++ t.extract (k + 1) t.size).size = (t.extract 0 k ++ c).size + (t.extract (k + 1) t.size).size := ByteArray.size_append
      have s2 : (t.extract 0 k).size = min k t.size - 0 := ByteArray.size_extract
      have s3 : (t.extract (k + 1) t.size).size = min t.size t.size - (k + 1) := ByteArray.size_extract
      refine ⟨t.extract 0 k ++ c ++ t.extract (k + 1) t.size, h3, by omega, A, ?_⟩
      (refine AC_begin (fun _ _ => Tryz.call48 _ _) Tryz.func48 rfl Tryz.ntmps48 Tryz.results48 (fun hwf => ?_); simp only [List.length_cons, List.length_nil, Nat.reduceAdd, Nat.reduceSub, List.replicate, List.cons_append, List.nil_append])
      (repeat (first | ((first | (refine And.intro ?_ ?_; focus exact PLA) | ((first | with_reducible apply callB_i | with_reducible apply callK_intro | with_reducible apply callQ_i); (focus (first | assumption | ((first | with_reducible apply c1 | with_reducible apply c2 | with_reducible apply c3) <;> (first | assumption | rfl | (simp (disch := omega) only [go_sem]; first | done | rfl) | omega | decide | (simp; done))))); (try exact WP_au)) | refine WA_seq (WA_region ?_) | refine WA_region ?_ | refine WA_exit ?_); try simp (maxSteps := 1000000) (disch := first | omega | rfl | decide | (simp only [List.length_cons, List.length_nil, List.length_append, LV] <;> omega)) only [go_sem, Nat.reduceAdd, Int.reduceAdd, Int.reduceSub, Int.reduceMul, Bool.not_true, Bool.not_false, hS, hcx, hb0, beq_self_eq_true]) | (refine WA_seq (WA_draw (id := 8) mixedOk (by kernel_rfl) ?_); simp (maxSteps := 1000000) (disch := first | omega | rfl | decide | (simp only [List.length_cons, List.length_nil, List.length_append, LV] <;> omega)) only [go_sem, Nat.reduceAdd, Int.reduceAdd, Int.reduceSub, Int.reduceMul, Bool.not_true, Bool.not_false, hS, hcx, hb0, beq_self_eq_true]) | (refine WA_draw (id := 8) mixedOk (by kernel_rfl) ?_; simp (maxSteps := 1000000) (disch := first | omega | rfl | decide | (simp only [List.length_cons, List.length_nil, List.length_append, LV] <;> omega)) only [go_sem, Nat.reduceAdd, Int.reduceAdd, Int.reduceSub, Int.reduceMul, Bool.not_true, Bool.not_false, hS, hcx, hb0, beq_self_eq_true]) | refine WA_seq ?_ | refine WA_block ?_ | (refine WA_skip ?_; try simp only [go_sem]) | (refine WA_ret ?_; try simp only [go_sem]) | refine WA_ct rfl ?_ | refine WA_cf rfl ?_))
      refine ret_full (by first | exact .inr rfl | exact .inl rfl) hlen ?_
      simp (maxSteps := 1000000) (disch := first | omega | rfl | decide | (simp only [List.length_cons, List.length_nil, List.length_append, LV] <;> omega)) only [go_sem, Nat.reduceAdd, Int.reduceAdd, Int.reduceSub, Int.reduceMul, Bool.not_true, Bool.not_false]
      try rfl
    · have hy0 : (y == 0) = false := by simpa using h0
      by_cases h1y : y = 1
      · subst h1y
        have s1 : (t.extract 0 k ++ t.extract (k + 1) t.size).size = (t.extract 0 k).size + (t.extract (k + 1) t.size).size := ByteArray.size_append
        have s2 : (t.extract 0 k).size = min k t.size - 0 := ByteArray.size_extract
        have s3 : (t.extract (k + 1) t.size).size = min t.size t.size - (k + 1) := ByteArray.size_extract
        refine ⟨t.extract 0 k ++ t.extract (k + 1) t.size, h3, by omega, A, ?_⟩
        (refine AC_begin (fun _ _ => Tryz.call48 _ _) Tryz.func48 rfl Tryz.ntmps48 Tryz.results48 (fun hwf => ?_); simp only [List.length_cons, List.length_nil, Nat.reduceAdd, Nat.reduceSub, List.replicate, List.cons_append, List.nil_append])
        (repeat (first | ((first | (refine And.intro ?_ ?_; focus exact PLA) | ((first | with_reducible apply callB_i | with_reducible apply callK_intro | with_reducible apply callQ_i); (focus (first | assumption | ((first | with_reducible apply c1 | with_reducible apply c2 | with_reducible apply c3) <;> (first | assumption | rfl | (simp (disch := omega) only [go_sem]; first | done | rfl) | omega | decide | (simp; done))))); (try exact WP_au)) | refine WA_seq (WA_region ?_) | refine WA_region ?_ | refine WA_exit ?_); try simp (maxSteps := 1000000) (disch := first | omega | rfl | decide | (simp only [List.length_cons, List.length_nil, List.length_append, LV] <;> omega)) only [go_sem, Nat.reduceAdd, Int.reduceAdd, Int.reduceSub, Int.reduceMul, Bool.not_true, Bool.not_false, hS, hcx, hb0, hy0, beq_self_eq_true]) | (refine WA_seq (WA_draw (id := 10) mixedOk (by kernel_rfl) ?_); simp (maxSteps := 1000000) (disch := first | omega | rfl | decide | (simp only [List.length_cons, List.length_nil, List.length_append, LV] <;> omega)) only [go_sem, Nat.reduceAdd, Int.reduceAdd, Int.reduceSub, Int.reduceMul, Bool.not_true, Bool.not_false, hS, hcx, hb0, hy0, beq_self_eq_true]) | (refine WA_draw (id := 10) mixedOk (by kernel_rfl) ?_; simp (maxSteps := 1000000) (disch := first | omega | rfl | decide | (simp only [List.length_cons, List.length_nil, List.length_append, LV] <;> omega)) only [go_sem, Nat.reduceAdd, Int.reduceAdd, Int.reduceSub, Int.reduceMul, Bool.not_true, Bool.not_false, hS, hcx, hb0, hy0, beq_self_eq_true]) | refine WA_seq ?_ | refine WA_block ?_ | (refine WA_skip ?_; try simp only [go_sem]) | (refine WA_ret ?_; try simp only [go_sem]) | refine WA_ct rfl ?_ | refine WA_cf rfl ?_))
        refine ret_full (by first | exact .inr rfl | exact .inl rfl) hlen ?_
        simp (maxSteps := 1000000) (disch := first | omega | rfl | decide | (simp only [List.length_cons, List.length_nil, List.length_append, LV] <;> omega)) only [go_sem, Nat.reduceAdd, Int.reduceAdd, Int.reduceSub, Int.reduceMul, Bool.not_true, Bool.not_false]
        try rfl
      · have hy1 : (y == 1) = false := by simpa using h1y
        have s1 : (t.extract 0 k ++ c ++ t.extract k t.size).size = (t.extract 0 k ++ c).size + (t.extract k t.size).size := ByteArray.size_append
        have s2 : (t.extract 0 k).size = min k t.size - 0 := ByteArray.size_extract
        have s3 : (t.extract k t.size).size = min t.size t.size - k := ByteArray.size_extract
        refine ⟨t.extract 0 k ++ c ++ t.extract k t.size, h3, by omega, A, ?_⟩
        (refine AC_begin (fun _ _ => Tryz.call48 _ _) Tryz.func48 rfl Tryz.ntmps48 Tryz.results48 (fun hwf => ?_); simp only [List.length_cons, List.length_nil, Nat.reduceAdd, Nat.reduceSub, List.replicate, List.cons_append, List.nil_append])
        (repeat (first | ((first | (refine And.intro ?_ ?_; focus exact PLA) | ((first | with_reducible apply callB_i | with_reducible apply callK_intro | with_reducible apply callQ_i); (focus (first | assumption | ((first | with_reducible apply c1 | with_reducible apply c2 | with_reducible apply c3) <;> (first | assumption | rfl | (simp (disch := omega) only [go_sem]; first | done | rfl) | omega | decide | (simp; done))))); (try exact WP_au)) | refine WA_seq (WA_region ?_) | refine WA_region ?_ | refine WA_exit ?_); try simp (maxSteps := 1000000) (disch := first | omega | rfl | decide | (simp only [List.length_cons, List.length_nil, List.length_append, LV] <;> omega)) only [go_sem, Nat.reduceAdd, Int.reduceAdd, Int.reduceSub, Int.reduceMul, Bool.not_true, Bool.not_false, hS, hcx, hb0, hy0, hy1]) | (refine WA_seq (WA_draw (id := 11) mixedOk (by kernel_rfl) ?_); simp (maxSteps := 1000000) (disch := first | omega | rfl | decide | (simp only [List.length_cons, List.length_nil, List.length_append, LV] <;> omega)) only [go_sem, Nat.reduceAdd, Int.reduceAdd, Int.reduceSub, Int.reduceMul, Bool.not_true, Bool.not_false, hS, hcx, hb0, hy0, hy1]) | (refine WA_draw (id := 11) mixedOk (by kernel_rfl) ?_; simp (maxSteps := 1000000) (disch := first | omega | rfl | decide | (simp only [List.length_cons, List.length_nil, List.length_append, LV] <;> omega)) only [go_sem, Nat.reduceAdd, Int.reduceAdd, Int.reduceSub, Int.reduceMul, Bool.not_true, Bool.not_false, hS, hcx, hb0, hy0, hy1]) | refine WA_seq ?_ | refine WA_block ?_ | (refine WA_skip ?_; try simp only [go_sem]) | (refine WA_ret ?_; try simp only [go_sem]) | refine WA_ct rfl ?_ | refine WA_cf rfl ?_))
        refine ret_full (by first | exact .inr rfl | exact .inl rfl) hlen ?_
        simp (maxSteps := 1000000) (disch := first | omega | rfl | decide | (simp only [List.length_cons, List.length_nil, List.length_append, LV] <;> omega)) only [go_sem, Nat.reduceAdd, Int.reduceAdd, Int.reduceSub, Int.reduceMul, Bool.not_true, Bool.not_false]
        try rfl

end Go.Proofs.YtkdpjkpedklbpaaGreatDoor
/- Texts cut at a sign. Plain. -/
namespace Go.Proofs.YtkdpjkpedklbpaaGreatDoor
set_option linter.unusedSimpArgs false
set_option linter.unusedVariables false
set_option maxRecDepth 20000
set_option maxHeartbeats 1000000
open Go.Abs

/-- A list cut at each c. -/
def cutL (c : UInt8) : List UInt8 → List (List UInt8)
  | [] => [[]]
  | b :: l => if b = c then [] :: cutL c l else match cutL c l with
    | [] => [[b]]
    | p :: ps => (b :: p) :: ps
def glue (x : List UInt8) : List (List UInt8) → List (List UInt8)
  | [] => [x]
  | p :: ps => (x ++ p) :: ps
theorem cutL_ne (c : UInt8) : ∀ l, ∃ p ps, cutL c l = p :: ps
  | [] => ⟨[], [], rfl⟩
  | b :: l => by
    obtain ⟨p, ps, e⟩ := cutL_ne c l
    unfold cutL
    split
    · exact ⟨_, _, rfl⟩
    · rw [e]; exact ⟨_, _, rfl⟩
theorem cutL_eq (c : UInt8) (l : List UInt8) : cutL c (c :: l) = [] :: cutL c l := by rw [cutL, if_pos rfl]
theorem cutL_other {b c : UInt8} (h : b ≠ c) (l : List UInt8) : cutL c (b :: l) = glue [b] (cutL c l) := by
  rw [cutL, if_neg h]
  cases cutL c l <;> rfl
theorem glue_nil {R : List (List UInt8)} (h : ∃ p ps, R = p :: ps) : glue [] R = R := by obtain ⟨p, ps, rfl⟩ := h; rfl
theorem glue_two (x y : List UInt8) {R : List (List UInt8)} (h : ∃ p ps, R = p :: ps) : glue x (glue y R) = glue (x ++ y) R := by obtain ⟨p, ps, rfl⟩ := h; simp [glue]
theorem index_other {b c : UInt8} (h : b ≠ c) (l : List UInt8) : Lib.index (b :: l) [c] = if Lib.index l [c] == -1 then -1 else Lib.index l [c] + 1 := by
  have hp : ([c] : List UInt8).isPrefixOf (b :: l) = false := by simp [List.isPrefixOf, Ne.symm h]
  rw [Lib.index, hp]; simp
theorem index_same (c : UInt8) (l : List UInt8) : Lib.index (c :: l) [c] = 0 := by rw [Lib.index]; simp [List.isPrefixOf]
/-- The library's cuts. -/
theorem splitK_cut (c : UInt8) : ∀ l : List UInt8, Lib.splitK [c] 0 (Lib.count l [c]) l = cutL c l
  | [] => by rw [Lib.count_one]; rfl
  | b :: l => by
    have ih := splitK_cut c l
    by_cases h : b = c
    · subst h
      rw [Lib.count_cons_eq, Nat.add_comm, Lib.splitK, index_same, if_neg (by decide), cutL_eq]
      show List.take 0 (b :: l) :: Lib.splitK [b] 0 (Lib.count l [b]) (List.drop 1 (b :: l)) = _
      rw [List.take_zero, List.drop_one, List.tail_cons, ih]
    · rw [Lib.count_cons_ne b c l h, cutL_other h, ← ih]
      by_cases hm : Lib.index l [c] = -1
      · rw [Lib.count_miss hm]; rfl
      · have hge := Lib.index_ge l [c]
        obtain ⟨j, hj⟩ : ∃ j : Nat, Lib.index l [c] = j := ⟨(Lib.index l [c]).toNat, by omega⟩
        have hc := Lib.count_hit (s := l) (sub := [c]) (by simp) hj
        obtain ⟨n, hn⟩ : ∃ n, Lib.count l [c] = n + 1 := ⟨_, by rw [hc, Nat.add_comm]⟩
        have hix : Lib.index (b :: l) [c] = ((j + 1 : Nat) : Int) := by
          rw [index_other h, if_neg (fun e => hm (beq_iff_eq.1 e)), hj]; omega
        have n1 : ¬ ((((j + 1 : Nat) : Int)) == -1) = true := fun e => by have := beq_iff_eq.1 e; omega
        have n2 : ¬ (((j : Nat) : Int) == -1) = true := fun e => by have := beq_iff_eq.1 e; omega
        rw [hn, Lib.splitK, Lib.splitK, hix, hj, if_neg n1, if_neg n2]
        show List.take (j + 1) (b :: l) :: Lib.splitK [c] 0 n (List.drop (j + 1 + 1) (b :: l)) = (b :: List.take j l) :: Lib.splitK [c] 0 n (List.drop (j + 1) l)
        rfl
/-- The pieces behind the first k signs, and where the next begins. -/
def spP (s : ByteArray) (c : UInt8) : Nat → List ByteArray × Nat
  | 0 => ([], 0)
  | k + 1 => if ch s k = c then ((spP s c k).1 ++ [s.extract (spP s c k).2 k], k + 1) else spP s c k
def spA (s : ByteArray) (c : UInt8) : List ByteArray := (spP s c s.size).1 ++ [s.extract (spP s c s.size).2 s.size]
theorem spP_t {s : ByteArray} {c : UInt8} {k : Nat} (h : ch s k = c) : spP s c (k + 1) = ((spP s c k).1 ++ [s.extract (spP s c k).2 k], k + 1) := by rw [spP, if_pos h]
theorem spP_f {s : ByteArray} {c : UInt8} {k : Nat} (h : ch s k ≠ c) : spP s c (k + 1) = spP s c k := by rw [spP, if_neg h]
theorem spP_le (s : ByteArray) (c : UInt8) : ∀ k, (spP s c k).2 ≤ k ∧ (spP s c k).1.length ≤ k
  | 0 => ⟨Nat.le_refl _, Nat.le_refl _⟩
  | k + 1 => by
    obtain ⟨h1, h2⟩ := spP_le s c k
    by_cases h : ch s k = c
    · rw [spP_t h]; simp; omega
    · rw [spP_f h]; omega
theorem ext_list (s : ByteArray) (a b : Nat) : (s.extract a b).data.toList = (s.data.toList.take b).drop a := by
  rw [Lib.extract_data, List.drop_take]
theorem sz_list (s : ByteArray) : s.size = s.data.toList.length := by rw [Array.length_toList]; rfl
theorem drop_ch {s : ByteArray} {k : Nat} (h : k < s.size) : s.data.toList.drop k = ch s k :: s.data.toList.drop (k + 1) := by
  have h' : k < s.data.toList.length := by rw [← sz_list]; exact h
  rw [List.drop_eq_getElem_cons h']
  congr 1
  unfold ch
  rw [Array.getD_eq_getD_getElem?, ← Array.getElem?_toList, List.getElem?_eq_getElem h']; rfl
theorem take_ch {s : ByteArray} {k a : Nat} (h : k < s.size) (ha : a ≤ k) : (s.data.toList.take (k + 1)).drop a = (s.data.toList.take k).drop a ++ [ch s k] := by
  have h' : k < s.data.toList.length := by rw [← sz_list]; exact h
  have e : s.data.toList[k] = ch s k := by
    unfold ch
    rw [Array.getD_eq_getD_getElem?, ← Array.getElem?_toList, List.getElem?_eq_getElem h']; rfl
  rw [List.take_succ_eq_append_getElem h', e, List.drop_append_of_le_length (by rw [List.length_take]; omega)]
theorem spP_cut (s : ByteArray) (c : UInt8) : ∀ k, k ≤ s.size → cutL c s.data.toList = (spP s c k).1.map (·.data.toList) ++ glue ((s.data.toList.take k).drop (spP s c k).2) (cutL c (s.data.toList.drop k))
  | 0, _ => by
    show _ = [] ++ glue ((s.data.toList.take 0).drop 0) (cutL c (s.data.toList.drop 0))
    rw [List.nil_append, List.take_zero, List.drop_nil, List.drop_zero, glue_nil (cutL_ne c _)]
  | k + 1, hk => by
    obtain ⟨h1, _⟩ := spP_le s c k
    rw [spP_cut s c k (by omega), drop_ch (show k < s.size by omega)]
    by_cases h : ch s k = c
    · rw [spP_t h, h, cutL_eq, List.map_append, List.append_assoc]
      congr 1
      show glue _ ([] :: _) = [(s.extract (spP s c k).2 k).data.toList] ++ glue ((s.data.toList.take (k + 1)).drop (k + 1)) _
      have d1 : (s.data.toList.take (k + 1)).drop (k + 1) = [] := List.drop_eq_nil_of_le (by rw [List.length_take]; omega)
      rw [d1, glue_nil (cutL_ne c _), ext_list]
      simp [glue]
    · rw [spP_f h, cutL_other h, glue_two _ _ (cutL_ne c _), take_ch (show k < s.size by omega) h1]
theorem spA_cut (s : ByteArray) (c : UInt8) : (spA s c).map (·.data.toList) = cutL c s.data.toList := by
  have d2 : s.data.toList.drop s.size = [] := List.drop_eq_nil_of_le (by rw [sz_list]; exact Nat.le_refl _)
  rw [spP_cut s c s.size (Nat.le_refl _), d2]
  unfold spA
  rw [List.map_append]
  show _ ++ [(s.extract _ _).data.toList] = _ ++ glue _ [[]]
  rw [ext_list]; simp [glue]
theorem ba_inj {x y : ByteArray} (h : x.data.toList = y.data.toList) : x = y := by
  cases x; cases y; congr 1; exact Array.ext' h
theorem map_ba : ∀ {xs ys : List ByteArray}, xs.map (·.data.toList) = ys.map (·.data.toList) → xs = ys
  | [], [], _ => rfl
  | [], _ :: _, h => by simp at h
  | _ :: _, [], h => by simp at h
  | x :: xs, y :: ys, h => by
    simp only [List.map_cons, List.cons.injEq] at h
    rw [ba_inj h.1, map_ba h.2]
/-- The pieces are the library's. -/
theorem spA_lib (s : ByteArray) (c : UInt8) : Lib.splitB ⟨#[c]⟩ 0 (Lib.countB s ⟨#[c]⟩) s = spA s c := map_ba (by
  rw [Lib.splitB_data, spA_cut]
  exact splitK_cut c s.data.toList)
theorem spA_len (s : ByteArray) (c : UInt8) : Lib.countB s ⟨#[c]⟩ + 1 = (spA s c).length := by
  rw [← spA_lib, Lib.splitB_all _ (show 1 ≤ (⟨#[c]⟩ : ByteArray).size from Nat.le_refl 1) 0 _ _ rfl]
theorem spA_le (s : ByteArray) (c : UInt8) : (spA s c).length ≤ s.size + 1 := by
  have := (spP_le s c s.size).2
  unfold spA; rw [List.length_append]; simp; omega
theorem spA_piece {s : ByteArray} {c : UInt8} {p : ByteArray} (h : p ∈ spA s c) : p.size ≤ s.size := by
  have key : ∀ k, k ≤ s.size → ∀ q ∈ (spP s c k).1, q.size ≤ s.size := fun k => by
    induction k with
    | zero => intro _ q hq; cases hq
    | succ k ih =>
      intro hk q hq
      by_cases h : ch s k = c
      · rw [spP_t h] at hq
        rcases List.mem_append.1 hq with hq | hq
        · exact ih (by omega) q hq
        · rw [List.mem_singleton.1 hq, ByteArray.size_extract]; omega
      · rw [spP_f h] at hq; exact ih (by omega) q hq
  unfold spA at h
  rcases List.mem_append.1 h with h | h
  · exact key _ (Nat.le_refl _) p h
  · rw [List.mem_singleton.1 h, ByteArray.size_extract]; omega
end Go.Proofs.YtkdpjkpedklbpaaGreatDoor
/- Texts of ciphers: pieces joined, signs taken away, numerals. Plain. -/
namespace Go.Proofs.YtkdpjkpedklbpaaGreatDoor
set_option linter.unusedSimpArgs false
set_option linter.unusedVariables false
set_option maxRecDepth 20000
set_option maxHeartbeats 1000000
open Go.Abs

def joinB (L : List ByteArray) (sep : ByteArray) : ByteArray := ⟨(Lib.join (L.map (·.data.toList)) sep.data.toList).toArray⟩
def dT (n : Int) : ByteArray := ⟨(Lib.itoa n).toArray⟩
theorem app_list (x y : ByteArray) : (x ++ y).data.toList = x.data.toList ++ y.data.toList := by simp [ByteArray.data_append]
theorem join_five (a b c d e s : ByteArray) : joinB [a, b, c, d, e] s = a ++ s ++ b ++ s ++ c ++ s ++ d ++ s ++ e := ba_inj (by
  simp only [joinB, app_list, List.map_cons, List.map_nil, Lib.join_cons, Lib.joinTail, List.flatten_cons, List.flatten_nil, List.append_nil, List.append_assoc])
/-- All signs c taken away. -/
theorem replaceK_filter (c : UInt8) : ∀ l : List UInt8, Lib.replaceK [c] [] (Lib.count l [c]) l = l.filter (· != c)
  | [] => by rw [Lib.count_one]; rfl
  | b :: l => by
    have ih := replaceK_filter c l
    by_cases h : b = c
    · subst h
      rw [Lib.count_cons_eq, Nat.add_comm, Lib.replaceK, index_same, if_neg (by decide)]
      show List.take 0 (b :: l) ++ [] ++ Lib.replaceK [b] [] (Lib.count l [b]) (List.drop 1 (b :: l)) = _
      rw [List.take_zero, List.nil_append, List.nil_append, List.drop_one, List.tail_cons, ih]
      simp
    · have hf : (b :: l).filter (· != c) = b :: l.filter (· != c) := List.filter_cons_of_pos (by simpa using h)
      rw [Lib.count_cons_ne b c l h, hf, ← ih]
      by_cases hm : Lib.index l [c] = -1
      · rw [Lib.count_miss hm]; rfl
      · have hge := Lib.index_ge l [c]
        obtain ⟨j, hj⟩ : ∃ j : Nat, Lib.index l [c] = j := ⟨(Lib.index l [c]).toNat, by omega⟩
        have hc := Lib.count_hit (s := l) (sub := [c]) (by simp) hj
        obtain ⟨n, hn⟩ : ∃ n, Lib.count l [c] = n + 1 := ⟨_, by rw [hc, Nat.add_comm]⟩
        have hix : Lib.index (b :: l) [c] = ((j + 1 : Nat) : Int) := by
          rw [index_other h, if_neg (fun e => hm (beq_iff_eq.1 e)), hj]; omega
        rw [hn, Lib.replaceK_hit _ _ _ _ _ hix, Lib.replaceK_hit _ _ _ _ _ hj]
        rfl
theorem replaceAll_filter (c : UInt8) (l : List UInt8) : Lib.replaceAll l [c] [] = l.filter (· != c) := by
  unfold Lib.replaceAll Lib.replace Lib.replaceNum
  rw [if_neg (by simp), if_pos (.inl (by decide)), replaceK_filter]
theorem hexC_47 (n : Nat) : hexC n ≠ 47 := by
  rcases Nat.lt_or_ge n 16 with h | h
  · have : ∀ n, n < 16 → hexC n ≠ 47 := by decide +kernel
    exact this n h
  · have e : hexC n = 0 := by
      unfold hexC
      rw [Array.getD_eq_getD_getElem?, Array.getElem?_eq_none (by exact h)]; rfl
    rw [e]; decide
theorem hx_filter (f : Nat → UInt8) : ∀ n, (hx f n).filter (· != 47) = hx f n
  | 0 => rfl
  | n + 1 => by
    have h1 : (hexC ((f n).toNat / 16) != 47) = true := bne_iff_ne.2 (hexC_47 _)
    have h2 : (hexC ((f n).toNat % 16) != 47) = true := bne_iff_ne.2 (hexC_47 _)
    rw [hx, List.filter_append, hx_filter f n, List.filter_cons, h1, List.filter_cons, h2]; rfl
theorem hx_add (f : Nat → UInt8) (n : Nat) : ∀ m, hx f (n + m) = hx f n ++ hx (fun i => f (n + i)) m
  | 0 => by rw [Nat.add_zero]; exact (List.append_nil _).symm
  | m + 1 => by
    show hx f (n + m) ++ _ = hx f n ++ (hx (fun i => f (n + i)) m ++ _)
    rw [hx_add f n m, List.append_assoc]; rfl
/-- The rows' texts. -/
def mtL (a : Nat → UInt8) (k : Nat) : List ByteArray := (List.range k).map fun i => hxT (fun t => a (i * 4 + t)) 4
theorem mtL_len (a : Nat → UInt8) (k : Nat) : (mtL a k).length = k := by unfold mtL; simp
theorem mtL_snoc (a : Nat → UInt8) (k : Nat) : mtL a k ++ [hxT (fun t => a (k * 4 + t)) 4] = mtL a (k + 1) := by unfold mtL; rw [List.range_succ, List.map_append]; rfl
theorem mtL_zero (a : Nat → UInt8) : mtL a 0 = [] := rfl
theorem hx_four (a : Nat → UInt8) : hx a 16 = hx (fun t => a (0 * 4 + t)) 4 ++ (hx (fun t => a (1 * 4 + t)) 4 ++ (hx (fun t => a (2 * 4 + t)) 4 ++ hx (fun t => a (3 * 4 + t)) 4)) := by
  have e0 : (fun t => a (0 * 4 + t)) = a := funext fun t => by rw [Nat.zero_mul, Nat.zero_add]
  have e2 : (fun t => a (4 + (4 + t))) = fun t => a (2 * 4 + t) := funext fun t => by rw [← Nat.add_assoc]
  have e3 : (fun t => a (4 + (4 + (4 + t)))) = fun t => a (3 * 4 + t) := funext fun t => by rw [← Nat.add_assoc, ← Nat.add_assoc]
  rw [e0, show (16 : Nat) = 4 + 12 from rfl, hx_add a 4 12, show (12 : Nat) = 4 + 8 from rfl, hx_add _ 4 8, show (8 : Nat) = 4 + 4 from rfl, hx_add _ 4 4, ← e2, ← e3]
def mtT (a : Nat → UInt8) : ByteArray := joinB (mtL a 4) ⟨#[47]⟩
theorem mtT_list (a : Nat → UInt8) : (mtT a).data.toList = hx (fun t => a (0 * 4 + t)) 4 ++ ([47] ++ (hx (fun t => a (1 * 4 + t)) 4 ++ ([47] ++ (hx (fun t => a (2 * 4 + t)) 4 ++ ([47] ++ hx (fun t => a (3 * 4 + t)) 4))))) := by
  show Lib.join [hx (fun t => a (0 * 4 + t)) 4, hx (fun t => a (1 * 4 + t)) 4, hx (fun t => a (2 * 4 + t)) 4, hx (fun t => a (3 * 4 + t)) 4] [47] = _
  simp only [Lib.join_cons, Lib.joinTail, List.map_cons, List.map_nil, List.flatten_cons, List.flatten_nil, List.append_nil, List.append_assoc]
theorem mtT_size (a : Nat → UInt8) : (mtT a).size = 35 := by
  rw [sz_list, mtT_list]
  simp only [List.length_append, hx_len, List.length_cons, List.length_nil]
/-- The matrix' text without its signs. -/
theorem mtT_all (a : Nat → UInt8) : (⟨(Lib.replaceAll (mtT a).data.toList [47] []).toArray⟩ : ByteArray) = hxT a 16 := by
  rw [replaceAll_filter, mtT_list]
  unfold hxT
  rw [hx_four]
  simp only [List.filter_append, hx_filter]
  rfl
theorem dT_small {n : Nat} (h : n < 10) : dT n = ⟨#[UInt8.ofNat (48 + n)]⟩ := by
  unfold dT Lib.itoa
  rw [if_neg (by omega), Int.toNat_natCast, Lib.decDigits, dif_pos h]
theorem dT_step {n : Nat} (h : 10 ≤ n) : dT n = dT ((n / 10 : Nat) : Int) ++ ⟨#[UInt8.ofNat (48 + n % 10)]⟩ := ba_inj (by
  rw [app_list]
  show Lib.itoa (n : Int) = Lib.itoa ((n / 10 : Nat) : Int) ++ [UInt8.ofNat (48 + n % 10)]
  unfold Lib.itoa
  rw [if_neg (by omega), if_neg (by omega), Int.toNat_natCast, Int.toNat_natCast]
  conv => lhs; rw [Lib.decDigits, dif_neg (by omega)])
/-- The text of a cipher. -/
def ciT (m : Int) (bx mx pl : Nat → UInt8) (r : Int) : ByteArray := dT m ++ ⟨#[47]⟩ ++ hxT bx 256 ++ ⟨#[47]⟩ ++ hxT mx 16 ++ ⟨#[47]⟩ ++ hxT pl 16 ++ ⟨#[47]⟩ ++ dT r
end Go.Proofs.YtkdpjkpedklbpaaGreatDoor
