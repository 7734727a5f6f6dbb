/- FnExactLeastActivity is proved: whatever the input, the law returns true and its arguments read as they did. No condition. -/
import Derived.Test.YtkgiocoiojdgfaaQLA1
/- Least activity: rounds of costs. Plain. -/
namespace Go.Proofs.Ytkgiocoiojdgfaa
set_option linter.unusedSimpArgs false
set_option linter.unusedVariables false
set_option maxRecDepth 20000
set_option maxHeartbeats 1000000
open Go.Abs

/-- Where a set goes: nibble c becomes p. -/
def tgN (c s p : Nat) : Nat := s ^^^ (((s >>> (4 * c) &&& 15) ^^^ p) <<< (4 * c))
theorem bit15 (j : Nat) : (15 : Nat).testBit j = decide (j < 4) := by
  rcases Nat.lt_or_ge j 4 with h | h
  · rw [decide_eq_true h]
    match j, h with
    | 0, _ => rfl
    | 1, _ => rfl
    | 2, _ => rfl
    | 3, _ => rfl
  · rw [decide_eq_false (by omega), Nat.testBit_lt_two_pow (Nat.lt_of_lt_of_le (show 15 < 2 ^ 4 by decide) (Nat.pow_le_pow_right (by omega) h))]
theorem tgN_lt {c s p : Nat} (hc : c < 4) (hs : s < 65536) (hp : p < 16) : tgN c s p < 65536 := by
  unfold tgN
  refine Nat.xor_lt_two_pow (n := 16) hs ?_
  have h1 : (s >>> (4 * c) &&& 15) ^^^ p < 2 ^ 4 := Nat.xor_lt_two_pow (Nat.lt_of_le_of_lt Nat.and_le_right (by decide)) hp
  rw [Nat.shiftLeft_eq]
  refine Nat.lt_of_lt_of_le ((Nat.mul_lt_mul_right (Nat.two_pow_pos _)).2 h1) ?_
  rw [← Nat.pow_add]
  exact Nat.pow_le_pow_right (by omega) (by omega)
theorem tgN_or {c s p : Nat} (hp : p < 16) : (s ^^^ (s &&& (15 <<< (4 * c)))) ||| (p <<< (4 * c)) = tgN c s p := by
  refine Nat.eq_of_testBit_eq fun i => ?_
  unfold tgN
  simp only [Nat.testBit_or, Nat.testBit_xor, Nat.testBit_and, Nat.testBit_shiftLeft, Nat.testBit_shiftRight, bit15]
  by_cases hi : i ≥ 4 * c
  · rw [decide_eq_true hi, show 4 * c + (i - 4 * c) = i by omega]
    by_cases h4 : i - 4 * c < 4
    · rw [decide_eq_true h4]
      cases s.testBit i <;> cases p.testBit (i - 4 * c) <;> rfl
    · rw [decide_eq_false h4, Nat.testBit_lt_two_pow (x := p) (Nat.lt_of_lt_of_le (show p < 2 ^ 4 from hp) (Nat.pow_le_pow_right (by omega) (by omega)))]
      cases s.testBit i <;> rfl
  · rw [decide_eq_false hi]
    cases s.testBit i <;> rfl
/-- Costs through c columns. -/
def colN (F : Nat → Nat → Nat) (len : Nat → Nat) (v : Nat → Int) : Nat → Nat → Int
  | 0 => v
  | c + 1 => cols (fun s k => tgN c s (F (s >>> (4 * c) &&& 15) k)) (fun s => len (s >>> (4 * c) &&& 15)) (colN F len v c) (fun _ => 1000) 65536
theorem colN_rel {B U : Int} (hB : 1000 ≤ U) {F : Nat → Nat → Nat} {len : Nat → Nat} {v v' : Nat → Int} (hv : ∀ s, s < 65536 → Cap B U (v s) (v' s)) : ∀ c s, s < 65536 → Cap B U (colN F len v c s) (colN F len v' c s)
  | 0, s, hs => hv s hs
  | c + 1, s, _ => cols_rel (fun t => ⟨by omega, hB, rfl, .inr (by omega)⟩) 65536 (colN_rel hB hv c) s
theorem inn_bd {lo : Int} {tg : Nat → Nat} {x : Int} {f : Nat → Int} (hx : lo ≤ x) (hf : ∀ t, lo ≤ f t ∧ f t ≤ 1000) : ∀ k t, lo ≤ inn tg x f k t ∧ inn tg x f k t ≤ 1000
  | 0, t => hf t
  | k + 1, t => by
    have ih := inn_bd (tg := tg) hx hf k
    show lo ≤ upd _ _ _ t ∧ upd _ _ _ t ≤ 1000
    unfold upd
    split
    · have := ih (tg k); omega
    · exact ih t
theorem cols_bd {lo : Int} {tg : Nat → Nat → Nat} {len : Nat → Nat} {v f : Nat → Int} (hf : ∀ t, lo ≤ f t ∧ f t ≤ 1000) : ∀ n, (∀ s, s < n → lo ≤ v s) → ∀ t, lo ≤ cols tg len v f n t ∧ cols tg len v f n t ≤ 1000
  | 0, _, t => hf t
  | n + 1, hv, t => inn_bd (hv n (by omega)) (cols_bd hf n fun s hs => hv s (by omega)) _ t
theorem colN_bd {F : Nat → Nat → Nat} {len : Nat → Nat} {v : Nat → Int} (hv : ∀ s, s < 65536 → 0 ≤ v s) : ∀ c s, s < 65536 → 0 ≤ colN F len v c s
  | 0, s, hs => hv s hs
  | c + 1, s, _ => (cols_bd (fun _ => by omega) 65536 (colN_bd hv c) s).1
theorem colN_le {F : Nat → Nat → Nat} {len : Nat → Nat} {v : Nat → Int} (hv : ∀ s, s < 65536 → 0 ≤ v s) (c s : Nat) : colN F len v (c + 1) s ≤ 1000 := (cols_bd (fun _ => by omega) 65536 (colN_bd hv c) s).2
theorem wrR_bd {lo hi : Int} {ix : Nat → Nat} {v f : Nat → Int} (hf : ∀ t, lo ≤ f t ∧ f t ≤ hi) : ∀ n, (∀ s, s < n → lo ≤ v s ∧ v s ≤ hi) → ∀ t, lo ≤ wrR ix v f n t ∧ wrR ix v f n t ≤ hi
  | 0, _, t => hf t
  | n + 1, hv, t => by
    show lo ≤ upd _ _ _ t ∧ upd _ _ _ t ≤ hi
    unfold upd
    split
    · exact hv n (by omega)
    · exact wrR_bd hf n (fun s hs => hv s (by omega)) t
def mvC (pl : Nat → UInt8) (f : Nat → Int) (z : Int) : Nat → Nat → Int := wrR (fun s => mvM pl s 16) f fun _ => z
/-- A round of the reference's costs. -/
def rdS (pl : Nat → UInt8) (F : Nat → Nat → Nat) (len : Nat → Nat) (f : Nat → Int) : Nat → Int := fun s => colN F len (mvC pl f 0 65536) 4 s + ((popP s 16 : Nat) : Int)
/-- A round of the program's costs. -/
def rdI (pl : Nat → UInt8) (F : Nat → Nat → Nat) (len : Nat → Nat) (f : Nat → Int) : Nat → Int := fun s => if colN F len (mvC pl f 1000 65536) 4 s < 1000 then colN F len (mvC pl f 1000 65536) 4 s + ((popP s 16 : Nat) : Int) else colN F len (mvC pl f 1000 65536) 4 s
theorem rd_rel {B U : Int} (hB : B + 16 < 1000) (hU : 1000 ≤ U) {pl : Nat → UInt8} (hp : plOk pl = true) {F : Nat → Nat → Nat} {len : Nat → Nat} {f g : Nat → Int} (h : ∀ s, s < 65536 → Cap B U (f s) (g s)) :
    ∀ s, s < 65536 → Cap (B + 16) (U + 16) (rdS pl F len f s) (rdI pl F len g s) := fun s hs => by
  have hm : ∀ t, t < 65536 → Cap B U (mvC pl f 0 65536 t) (mvC pl g 1000 65536 t) := fun t ht => by
    obtain ⟨s, h1, h2⟩ := mvM_onto hp ht
    exact wrR_rel (R := Cap B U) h (.inr ⟨s, h1, h2⟩)
  have hpp := popP_le s 16
  exact Cap_add (colN_rel hU hm 4 s hs) (by omega) (by omega) hB
/-- The first costs. -/
def st0 : Nat → Int := upd (fun s => ((popP s 16 : Nat) : Int)) 0 1000
theorem st0_cap (s : Nat) : Cap 16 1000 (st0 s) (st0 s) := by
  have hpp := popP_le s 16
  have hs : st0 s = if s = 0 then 1000 else ((popP s 16 : Nat) : Int) := rfl
  unfold Cap
  rw [hs]
  split
  · omega
  · rw [if_pos (by omega)]; omega
def itS (pl : Nat → UInt8) (F : Nat → Nat → Nat) (len : Nat → Nat) : Nat → Nat → Int
  | 0 => st0
  | r + 1 => rdS pl F len (itS pl F len r)
def itI (pl : Nat → UInt8) (F : Nat → Nat → Nat) (len : Nat → Nat) : Nat → Nat → Int
  | 0 => st0
  | r + 1 => rdI pl F len (itI pl F len r)
theorem it_cap {pl : Nat → UInt8} (hp : plOk pl = true) (F : Nat → Nat → Nat) (len : Nat → Nat) : ∀ r : Nat, r ≤ 20 → ∀ s, s < 65536 → Cap (16 * (r : Int) + 16) (16 * (r : Int) + 1000) (itS pl F len r s) (itI pl F len r s)
  | 0, _, s, _ => st0_cap s
  | r + 1, hr, s, hs => by
    have := rd_rel (by omega) (by omega) hp (F := F) (len := len) (it_cap hp F len r (by omega)) s hs
    have e1 : (16 : Int) * ((r : Nat) : Int) + 16 + 16 = 16 * ((r + 1 : Nat) : Int) + 16 := by omega
    have e2 : (16 : Int) * ((r : Nat) : Int) + 1000 + 16 = 16 * ((r + 1 : Nat) : Int) + 1000 := by omega
    rw [e1, e2] at this
    exact this
theorem itS_bd {pl : Nat → UInt8} (hp : plOk pl = true) (F : Nat → Nat → Nat) (len : Nat → Nat) {r : Nat} (hr : r ≤ 20) (s : Nat) (hs : s < 65536) : 0 ≤ itS pl F len r s ∧ itS pl F len r s ≤ 2000 := by
  have := it_cap hp F len r hr s hs
  unfold Cap at this; omega
theorem itI_bd {pl : Nat → UInt8} (hp : plOk pl = true) (F : Nat → Nat → Nat) (len : Nat → Nat) {r : Nat} (hr : r ≤ 20) (s : Nat) (hs : s < 65536) : 0 ≤ itI pl F len r s ∧ itI pl F len r s ≤ 1000 := by
  have := it_cap hp F len r hr s hs
  unfold Cap at this
  split at this <;> omega
/-- The least of a list, from 1000 on. -/
def lsF (f : Nat → Int) : Nat → Int
  | 0 => 1000
  | k + 1 => if f k < lsF f k then f k else lsF f k
theorem lsF_cap {B U : Int} {f g : Nat → Int} : ∀ {n : Nat}, (∀ s, s < n + 1 → Cap B U (f s) (g s)) → lsF f (n + 1) = mnF g n
  | 0, h => by
    have h0 := h 0 (by omega)
    unfold Cap at h0
    show (if f 0 < 1000 then f 0 else 1000) = g 0
    rw [h0.2.2.1]
  | n + 1, h => by
    have ih := lsF_cap (n := n) (fun s hs => h s (by omega))
    have h0 := h (n + 1) (by omega)
    have hz := Cap_le (h 0 (by omega))
    have hm := mnF_le g n 0 (by omega)
    unfold Cap at h0
    obtain ⟨_, _, h0, _⟩ := h0
    show (if f (n + 1) < lsF f (n + 1) then f (n + 1) else lsF f (n + 1)) = (if g (n + 1) < mnF g n then g (n + 1) else mnF g n)
    rw [ih]
    split at h0 <;> split <;> split <;> omega
end Go.Proofs.Ytkgiocoiojdgfaa
/- Least activity: a round of the reference. -/
namespace Go.Proofs.Ytkgiocoiojdgfaa
set_option linter.unusedSimpArgs false
set_option linter.unusedVariables false
set_option maxRecDepth 20000
set_option maxHeartbeats 1000000
open Go.Abs

/-- The first n are c, the others 0: one more. -/
theorem rp_next (c : Int) (k : Nat) : upd (rpF c k) k c = rpF c (k + 1) := by
  funext i
  show (if i = k then c else rpF c k i) = rpF c (k + 1) i
  by_cases h : i = k
  · rw [if_pos h, rpF_lt (by omega)]
  · rw [if_neg h]
    by_cases h2 : i < k
    · rw [rpF_lt h2, rpF_lt (by omega)]
    · rw [rpF_ge h2, rpF_ge (by omega)]
/-- Bits added at the first k sets. -/
def adF (v : Nat → Int) (k : Nat) : Nat → Int := fun i => if i < k then v i + ((popP i 16 : Nat) : Int) else v i
theorem adF_zero (v : Nat → Int) : adF v 0 = v := funext fun i => if_neg (Nat.not_lt_zero i)
theorem adF_at (v : Nat → Int) (k : Nat) : adF v k k = v k := if_neg (Nat.lt_irrefl k)
theorem adF_next (v : Nat → Int) (k : Nat) : upd (adF v k) k (v k + ((popP k 16 : Nat) : Int)) = adF v (k + 1) := by
  funext i
  show (if i = k then v k + ((popP k 16 : Nat) : Int) else adF v k i) = adF v (k + 1) i
  unfold adF
  by_cases h : i = k
  · subst h; rw [if_pos rfl, if_pos (by omega)]
  · rw [if_neg h]
    by_cases h2 : i < k
    · rw [if_pos h2, if_pos (by omega)]
    · rw [if_neg h2, if_neg (by omega)]
theorem mvC_next (pl : Nat → UInt8) (f : Nat → Int) (z : Int) (k : Nat) : upd (mvC pl f z k) (mvM pl k 16) (f k) = mvC pl f z (k + 1) := rfl
theorem mvC_zero (pl : Nat → UInt8) (f : Nat → Int) (z : Int) : mvC pl f z 0 = fun _ => z := rfl
theorem cols_next (tg : Nat → Nat → Nat) (len : Nat → Nat) (v f : Nat → Int) (s : Nat) : inn (tg s) (v s) (cols tg len v f s) (len s) = cols tg len v f (s + 1) := rfl
theorem cols_zero (tg : Nat → Nat → Nat) (len : Nat → Nat) (v f : Nat → Int) : cols tg len v f 0 = f := rfl
theorem inn_next (tg : Nat → Nat) (x : Int) (f : Nat → Int) (k : Nat) : upd (inn tg x f k) (tg k) (min (inn tg x f k (tg k)) x) = inn tg x f (k + 1) := rfl
theorem inn_zero (tg : Nat → Nat) (x : Int) (f : Nat → Int) : inn tg x f 0 = f := rfl
theorem colN_zero (F : Nat → Nat → Nat) (len : Nat → Nat) (v : Nat → Int) : colN F len v 0 = v := rfl
theorem colN_next (F : Nat → Nat → Nat) (len : Nat → Nat) (v : Nat → Int) (c : Nat) : cols (fun s k => tgN c s (F (s >>> (4 * c) &&& 15) k)) (fun s => len (s >>> (4 * c) &&& 15)) (colN F len v c) (fun _ => 1000) 65536 = colN F len v (c + 1) := rfl
theorem rdS_is (pl : Nat → UInt8) (F : Nat → Nat → Nat) (len : Nat → Nat) (f : Nat → Int) : Is 65536 (adF (colN F len (mvC pl f 0 65536) 4) 65536) = Is 65536 (rdS pl F len f) := Is_congr fun i hi => if_pos hi
theorem tgN_is (c s p : Nat) : s ^^^ (((s >>> (4 * c) &&& 15) ^^^ p) <<< (4 * c)) = tgN c s p := rfl
theorem shl_c {v c : Nat} (hv : v < 16) (hc : c < 4) : v <<< (4 * c) < 65536 := by
  rw [Nat.shiftLeft_eq]
  refine Nat.lt_of_lt_of_le ((Nat.mul_lt_mul_right (Nat.two_pow_pos _)).2 hv) ?_
  rw [show (16 : Nat) = 2 ^ 4 from rfl, ← Nat.pow_add]
  exact Nat.le_trans (Nat.pow_le_pow_right (by omega) (show 4 + 4 * c ≤ 16 by omega)) (by decide)
theorem rpF_zero (c : Int) : rpF c 0 = fun _ => 0 := funext fun _ => if_neg (Nat.not_lt_zero _)
theorem mvC_bd {pl : Nat → UInt8} {f : Nat → Int} (hf : ∀ s, s < 65536 → 0 ≤ f s ∧ f s ≤ 2000) (t : Nat) : 0 ≤ mvC pl f 0 65536 t := (wrR_bd (lo := 0) (hi := 2000) (fun _ => by omega) 65536 hf t).1
attribute [local irreducible] Is mvM mvC cols inn colN rpF adF tgN
theorem rdS_ac {m r : Int} {bx mx pl : Nat → UInt8} {f : Nat → Int} {g len : Nat → Nat} {F : Nat → Nat → Nat} {pb cb : Nat} {h : List Blk} {rp rc : Bool}
    (hsp : h[pb]? = some ⟨Vs 16 fun j => sl (g j) 0 (len j) 1, rp⟩) (hrow : ∀ j, j < 16 → h[g j]? = some ⟨Is (len j) fun i => ((F j i : Nat) : Int), true⟩) (hF : ∀ j i, F j i < 16) (hlen : ∀ j, len j ≤ 1000)
    (hcb : h[cb]? = some ⟨Is 65536 f, rc⟩) (hf : ∀ s, s < 65536 → 0 ≤ f s ∧ f s ≤ 2000) :
    AC Try.prog 124 [.agg (Ci m bx mx pl r).toArray, sl pb 0 16 1, sl cb 0 65536 1] h (sl (h.length + 1) 0 65536 1) (h ++ [⟨Ci m bx mx pl r, true⟩, ⟨Is 65536 (rdS pl F len f), true⟩]) := by
  have hbl := blt hcb
  have hbp := blt hsp
  have tn : Int.toNat 65536 = 65536 := rfl
  have mv0 := mvC_bd (pl := pl) hf
  (refine AC_begin (fun _ _ => Try.call124 _ _) Try.func124 rfl Try.ntmps124 Try.results124 (fun hwf => ?_); simp only [List.length_cons, List.length_nil, Nat.reduceAdd, Nat.reduceSub, List.replicate, List.cons_append, List.nil_append])
  (repeat (first | ((first | (refine And.intro ?_ ?_; focus (first | exact plain_agg (by simp only [go_sem]) | exact plain_two (by first | exact plain_agg (by simp only [go_sem]) | rfl) rfl | rfl)) | refine WA_seq (WA_region ?_) | refine WA_region ?_ | refine WA_exit ?_); try simp (maxSteps := 1000000) (disch := first | omega | rfl | decide | (simp only [List.length_cons, List.length_nil, List.length_append, Bs_length, Is_length, Vs_length, Bl_length, Il_length] <;> omega)) only [go_sem, Nat.reduceAdd, Int.reduceAdd, Int.reduceSub, Int.reduceMul, Bool.not_true, Bool.not_false, tn]) | refine WA_seq ?_ | refine WA_block ?_ | (refine WA_skip ?_; try simp only [go_sem]) | (refine WA_ret ?_; try simp only [go_sem]) | refine WA_ct rfl ?_ | refine WA_cf rfl ?_))
  refine WA_forP (fun k => [(8, .int .i64 k), (9, J), (10, J), (20, J), (21, J), (22, J), (23, J), (24, J), (25, J), (26, J), (27, J), (28, J), (29, J), (30, J), (31, J), (32, J), (33, J), (34, J), (35, J), (36, J), (37, J), (38, J), (39, J), (40, J), (41, J), (42, J), (43, J), (44, J), (45, J), (46, J), (47, J)]) (fun k => [(1, ⟨Is 65536 (mvC pl f 0 k), true⟩)]) (65536) ?_ ?_ ?_ <;> (try simp only [patT_cons, patT_nil, patL_cons, patL_nil, list_set_zero, list_set_succ, blk_set_zero, blk_set_succ])
  · rw [mvC_zero]
    (refine Drop_slots (by first | exact Nat.le_refl _ | simp) ?_; focus ((try simp only [JL_same, JL_J, JL_nil, Int.reduceAdd, Nat.sub_sub, Int.natCast_add, Int.natCast_one, Int.natCast_zero, Int.cast_ofNat_Int, Nat.add_zero, Bool.false_eq_true, if_false, if_true]); (try exact JL_refl _)))
  · intro s hs
    have hc0 := look_old hcb [⟨Ci m bx mx pl r, true⟩, ⟨Is 65536 (mvC pl f 0 s), true⟩]
    (repeat (first | ((first | (refine And.intro ?_ ?_; focus (first | exact plain_agg (by simp only [go_sem]) | exact plain_two (by first | exact plain_agg (by simp only [go_sem]) | rfl) rfl | rfl)) | refine WA_seq (WA_region ?_) | refine WA_region ?_ | refine WA_exit ?_); try simp (maxSteps := 1000000) (disch := first | omega | rfl | decide | (simp only [List.length_cons, List.length_nil, List.length_append, Bs_length, Is_length, Vs_length, Bl_length, Il_length] <;> omega)) only [go_sem, Nat.reduceAdd, Int.reduceAdd, Int.reduceSub, Int.reduceMul, Bool.not_true, Bool.not_false]) | refine WA_seq ?_ | refine WA_block ?_ | (refine WA_skip ?_; try simp only [go_sem]) | (refine WA_ret ?_; try simp only [go_sem]) | refine WA_ct rfl ?_ | refine WA_cf rfl ?_))
    refine WA_forP (fun k => [(9, .int .i64 ((mvM pl s k : Nat) : Int)), (10, .int .i64 k), (24, J), (25, J), (26, J), (27, J), (28, J), (29, J), (30, J), (31, J), (32, J), (33, J), (34, J), (35, J), (36, J), (37, J), (38, J), (39, J), (40, J)]) (fun k => []) (16) ?_ ?_ ?_ <;> (try simp only [patT_cons, patT_nil, patL_cons, patL_nil, list_set_zero, list_set_succ, blk_set_zero, blk_set_succ])
    · (refine Drop_slots (by first | exact Nat.le_refl _ | simp) ?_; focus ((try simp only [JL_same, JL_J, JL_nil, Int.reduceAdd, Nat.sub_sub, Int.natCast_add, Int.natCast_one, Int.natCast_zero, Int.cast_ofNat_Int, Nat.add_zero, Bool.false_eq_true, if_false, if_true, mvM]); (try exact JL_refl _)))
    · intro i hi
      have hs2 := Nat.shiftRight_le s (pl i).toNat
      have hv : s >>> (pl i).toNat &&& 1 ≤ 1 := Nat.and_le_right
      have h1 : bits .and .i64 ((s >>> (pl i).toNat : Nat) : Int) 1 = ((s >>> (pl i).toNat &&& 1 : Nat) : Int) := bits_and_N (a := s >>> (pl i).toNat) (b := 1) (by omega) (by omega)
      have h0 := shr_any hs (pl i).toNat
      have h2 := bit_shl hv (show i ≤ 60 by omega)
      have hm := Nat.lt_of_lt_of_le (mvM_lt pl s i) (Nat.pow_le_pow_right (n := 2) (by omega) (show i ≤ 16 by omega))
      have hm2 := Nat.lt_of_lt_of_le (mvM_lt pl s (i + 1)) (Nat.pow_le_pow_right (n := 2) (by omega) (show i + 1 ≤ 16 by omega))
      have hq : (s >>> (pl i).toNat &&& 1) <<< i < 9223372036854775808 := by
        rw [Nat.shiftLeft_eq]
        exact Nat.lt_of_le_of_lt (Nat.mul_le_mul hv (Nat.pow_le_pow_right (n := 2) (by omega) (show i ≤ 60 by omega))) (by omega)
      have h3 := bits_or_N (a := mvM pl s i) (b := (s >>> (pl i).toNat &&& 1) <<< i) (by omega) hq
      rw [mvM_set] at h3
      have h4 := wrap_N hq
      have hu := wrap_U (n := (pl i).toNat) (by have := u8_lt (pl i); omega)
      (repeat (first | ((first | (refine And.intro ?_ ?_; focus (first | exact plain_agg (by simp only [go_sem]) | exact plain_two (by first | exact plain_agg (by simp only [go_sem]) | rfl) rfl | rfl)) | refine WA_seq (WA_region ?_) | refine WA_region ?_ | refine WA_exit ?_); try simp (maxSteps := 1000000) (disch := first | omega | rfl | decide | (simp only [List.length_cons, List.length_nil, List.length_append, Bs_length, Is_length, Vs_length, Bl_length, Il_length] <;> omega)) only [go_sem, Nat.reduceAdd, Int.reduceAdd, Int.reduceSub, Int.reduceMul, Bool.not_true, Bool.not_false, hu, toNat_cast', h0, h1, h2, h4, h3]) | refine WA_seq ?_ | refine WA_block ?_ | (refine WA_skip ?_; try simp only [go_sem]) | (refine WA_ret ?_; try simp only [go_sem]) | refine WA_ct rfl ?_ | refine WA_cf rfl ?_))
      (refine Drop_slots (by first | exact Nat.le_refl _ | simp) ?_; focus ((try simp only [JL_same, JL_J, JL_nil, Int.reduceAdd, Nat.sub_sub, Int.natCast_add, Int.natCast_one, Int.natCast_zero, Int.cast_ofNat_Int, Nat.add_zero, Bool.false_eq_true, if_false, if_true]); (try exact JL_refl _)))
    · have hm := mvM_lt pl s 16
      (repeat (first | ((first | (refine And.intro ?_ ?_; focus (first | exact plain_agg (by simp only [go_sem]) | exact plain_two (by first | exact plain_agg (by simp only [go_sem]) | rfl) rfl | rfl)) | refine WA_seq (WA_region ?_) | refine WA_region ?_ | refine WA_exit ?_); try simp (maxSteps := 1000000) (disch := first | omega | rfl | decide | (simp only [List.length_cons, List.length_nil, List.length_append, Bs_length, Is_length, Vs_length, Bl_length, Il_length] <;> omega)) only [go_sem, Nat.reduceAdd, Int.reduceAdd, Int.reduceSub, Int.reduceMul, Bool.not_true, Bool.not_false, hc0, mvC_next]) | refine WA_seq ?_ | refine WA_block ?_ | (refine WA_skip ?_; try simp only [go_sem]) | (refine WA_ret ?_; try simp only [go_sem]) | refine WA_ct rfl ?_ | refine WA_cf rfl ?_))
      (refine Drop_slots (by first | exact Nat.le_refl _ | simp) ?_; focus ((try simp only [JL_same, JL_J, JL_nil, Int.reduceAdd, Nat.sub_sub, Int.natCast_add, Int.natCast_one, Int.natCast_zero, Int.cast_ofNat_Int, Nat.add_zero, Bool.false_eq_true, if_false, if_true]); (try exact JL_refl _)))
  · (repeat (first | ((first | (refine And.intro ?_ ?_; focus (first | exact plain_agg (by simp only [go_sem]) | exact plain_two (by first | exact plain_agg (by simp only [go_sem]) | rfl) rfl | rfl)) | refine WA_seq (WA_region ?_) | refine WA_region ?_ | refine WA_exit ?_); try simp (maxSteps := 1000000) (disch := first | omega | rfl | decide | (simp only [List.length_cons, List.length_nil, List.length_append, Bs_length, Is_length, Vs_length, Bl_length, Il_length] <;> omega)) only [go_sem, Nat.reduceAdd, Int.reduceAdd, Int.reduceSub, Int.reduceMul, Bool.not_true, Bool.not_false]) | refine WA_seq ?_ | refine WA_block ?_ | (refine WA_skip ?_; try simp only [go_sem]) | (refine WA_ret ?_; try simp only [go_sem]) | refine WA_ct rfl ?_ | refine WA_cf rfl ?_))
    refine WA_forP (fun k => [(7, sl (h.length + 1) 0 65536 1), (11, .int .i64 k), (12, J), (13, J), (14, J), (15, J), (16, J), (17, J), (19, J), (48, J), (49, J), (50, J), (51, J), (52, J), (53, J), (54, J), (55, J), (56, J), (57, J), (58, J), (59, J), (60, J), (61, J), (62, J), (63, J), (64, J), (65, J), (66, J), (67, J), (68, J), (69, J), (70, J), (71, J), (72, J), (73, J), (74, J), (75, J), (76, J), (77, J), (78, J), (79, J), (80, J), (81, J), (82, J), (83, J), (84, J), (85, J), (86, J), (87, J), (88, J), (89, J), (90, J), (91, J), (92, J), (93, J), (94, J), (95, J), (96, J), (97, J), (98, J), (99, J), (100, J), (101, J), (102, J), (103, J), (104, J), (105, J), (106, J)]) (fun k => [(1, ⟨Is 65536 (colN F len (mvC pl f 0 65536) k), true⟩)]) (4) ?_ ?_ ?_ <;> (try simp only [patT_cons, patT_nil, patL_cons, patL_nil, list_set_zero, list_set_succ, blk_set_zero, blk_set_succ])
    · rw [colN_zero]
      (refine Drop_slots (by first | exact Nat.le_refl _ | simp) ?_; focus ((try simp only [JL_same, JL_J, JL_nil, Int.reduceAdd, Nat.sub_sub, Int.natCast_add, Int.natCast_one, Int.natCast_zero, Int.cast_ofNat_Int, Nat.add_zero, Bool.false_eq_true, if_false, if_true]); (try exact JL_refl _)))
    · intro c hc
      (repeat (first | ((first | (refine And.intro ?_ ?_; focus (first | exact plain_agg (by simp only [go_sem]) | exact plain_two (by first | exact plain_agg (by simp only [go_sem]) | rfl) rfl | rfl)) | refine WA_seq (WA_region ?_) | refine WA_region ?_ | refine WA_exit ?_); try simp (maxSteps := 1000000) (disch := first | omega | rfl | decide | (simp only [List.length_cons, List.length_nil, List.length_append, Bs_length, Is_length, Vs_length, Bl_length, Il_length] <;> omega)) only [go_sem, Nat.reduceAdd, Int.reduceAdd, Int.reduceSub, Int.reduceMul, Bool.not_true, Bool.not_false, tn]) | refine WA_seq ?_ | refine WA_block ?_ | (refine WA_skip ?_; try simp only [go_sem]) | (refine WA_ret ?_; try simp only [go_sem]) | refine WA_ct rfl ?_ | refine WA_cf rfl ?_))
      refine WA_forP (fun k => [(13, .int .i64 k), (53, J), (54, J), (55, J), (56, J), (57, J), (58, J), (59, J)]) (fun k => [(2, ⟨Is 65536 (rpF 1000 k), true⟩)]) (65536) ?_ ?_ ?_ <;> (try simp only [patT_cons, patT_nil, patL_cons, patL_nil, list_set_zero, list_set_succ, blk_set_zero, blk_set_succ])
      · rw [rpF_zero]
        (refine Drop_slots (by first | exact Nat.le_refl _ | simp) ?_; focus ((try simp only [JL_same, JL_J, JL_nil, Int.reduceAdd, Nat.sub_sub, Int.natCast_add, Int.natCast_one, Int.natCast_zero, Int.cast_ofNat_Int, Nat.add_zero, Bool.false_eq_true, if_false, if_true]); (try exact JL_refl _)))
      · intro i hi
        (repeat (first | ((first | (refine And.intro ?_ ?_; focus (first | exact plain_agg (by simp only [go_sem]) | exact plain_two (by first | exact plain_agg (by simp only [go_sem]) | rfl) rfl | rfl)) | refine WA_seq (WA_region ?_) | refine WA_region ?_ | refine WA_exit ?_); try simp (maxSteps := 1000000) (disch := first | omega | rfl | decide | (simp only [List.length_cons, List.length_nil, List.length_append, Bs_length, Is_length, Vs_length, Bl_length, Il_length] <;> omega)) only [go_sem, Nat.reduceAdd, Int.reduceAdd, Int.reduceSub, Int.reduceMul, Bool.not_true, Bool.not_false, rp_next]) | refine WA_seq ?_ | refine WA_block ?_ | (refine WA_skip ?_; try simp only [go_sem]) | (refine WA_ret ?_; try simp only [go_sem]) | refine WA_ct rfl ?_ | refine WA_cf rfl ?_))
        (refine Drop_slots (by first | exact Nat.le_refl _ | simp) ?_; focus ((try simp only [JL_same, JL_J, JL_nil, Int.reduceAdd, Nat.sub_sub, Int.natCast_add, Int.natCast_one, Int.natCast_zero, Int.cast_ofNat_Int, Nat.add_zero, Bool.false_eq_true, if_false, if_true]); (try exact JL_refl _)))
      · rw [rp_all]
        have hN := colN_next F len (mvC pl f 0 65536) c
        generalize htg : (fun s k => tgN c s (F (s >>> (4 * c) &&& 15) k)) = tg at hN
        generalize hln : (fun s => len (s >>> (4 * c) &&& 15)) = ln at hN
        rw [← hN]
        generalize colN F len (mvC pl f 0 65536) c = v at *
        (repeat (first | ((first | (refine And.intro ?_ ?_; focus (first | exact plain_agg (by simp only [go_sem]) | exact plain_two (by first | exact plain_agg (by simp only [go_sem]) | rfl) rfl | rfl)) | refine WA_seq (WA_region ?_) | refine WA_region ?_ | refine WA_exit ?_); try simp (maxSteps := 1000000) (disch := first | omega | rfl | decide | (simp only [List.length_cons, List.length_nil, List.length_append, Bs_length, Is_length, Vs_length, Bl_length, Il_length] <;> omega)) only [go_sem, Nat.reduceAdd, Int.reduceAdd, Int.reduceSub, Int.reduceMul, Bool.not_true, Bool.not_false]) | refine WA_seq ?_ | refine WA_block ?_ | (refine WA_skip ?_; try simp only [go_sem]) | (refine WA_ret ?_; try simp only [go_sem]) | refine WA_ct rfl ?_ | refine WA_cf rfl ?_))
        refine WA_forP (fun k => [(14, .int .i64 k), (15, J), (16, J), (17, J), (60, J), (61, J), (62, J), (63, J), (64, J), (65, J), (66, J), (67, J), (68, J), (69, J), (70, J), (71, J), (72, J), (73, J), (74, J), (75, J), (76, J), (77, J), (78, J), (79, J), (80, J), (81, J), (82, J), (83, J), (84, J), (85, J), (86, J), (87, J), (88, J), (89, J), (90, J), (91, J), (92, J), (93, J), (94, J), (95, J), (96, J), (97, J), (98, J), (99, J), (100, J), (101, J), (102, J), (103, J), (104, J), (105, J)]) (fun k => [(2, ⟨Is 65536 (cols tg ln v (fun _ => 1000) k), true⟩)]) (65536) ?_ ?_ ?_ <;> (try simp only [patT_cons, patT_nil, patL_cons, patL_nil, list_set_zero, list_set_succ, blk_set_zero, blk_set_succ])
        · rw [cols_zero]
          (refine Drop_slots (by first | exact Nat.le_refl _ | simp) ?_; focus ((try simp only [JL_same, JL_J, JL_nil, Int.reduceAdd, Nat.sub_sub, Int.natCast_add, Int.natCast_one, Int.natCast_zero, Int.cast_ofNat_Int, Nat.add_zero, Bool.false_eq_true, if_false, if_true]); (try exact JL_refl _)))
        · intro s hs
          have ha : s >>> (4 * c) &&& 15 < 16 := Nat.lt_of_le_of_lt Nat.and_le_right (by omega)
          have hsr := Nat.shiftRight_le s (4 * c)
          rw [← cols_next tg ln v _ s]
          have hs0 := look_old hsp [⟨Ci m bx mx pl r, true⟩, ⟨Is 65536 v, true⟩, ⟨Is 65536 (cols tg ln v (fun _ => 1000) s), true⟩]
          have hr0 := look_old (hrow _ ha) [⟨Ci m bx mx pl r, true⟩, ⟨Is 65536 v, true⟩, ⟨Is 65536 (cols tg ln v (fun _ => 1000) s), true⟩]
          have hl := hlen (s >>> (4 * c) &&& 15)
          have hln1 : ln s = len (s >>> (4 * c) &&& 15) := by rw [← hln]
          have htg1 : ∀ k, tg s k = tgN c s (F (s >>> (4 * c) &&& 15) k) := fun k => by rw [← htg]
          rw [hln1]
          generalize hpv : cols tg ln v (fun _ => 1000) s = pv at *
          (repeat (first | ((first | (refine And.intro ?_ ?_; focus (first | exact plain_agg (by simp only [go_sem]) | exact plain_two (by first | exact plain_agg (by simp only [go_sem]) | rfl) rfl | rfl)) | refine WA_seq (WA_region ?_) | refine WA_region ?_ | refine WA_exit ?_); try simp (maxSteps := 1000000) (disch := first | omega | rfl | decide | (simp only [List.length_cons, List.length_nil, List.length_append, Bs_length, Is_length, Vs_length, Bl_length, Il_length] <;> omega)) only [go_sem, Nat.reduceAdd, Int.reduceAdd, Int.reduceSub, Int.reduceMul, Bool.not_true, Bool.not_false]) | refine WA_seq ?_ | refine WA_block ?_ | (refine WA_skip ?_; try simp only [go_sem]) | (refine WA_ret ?_; try simp only [go_sem]) | refine WA_ct rfl ?_ | refine WA_cf rfl ?_))
          refine WA_forP (fun k => [(16, .int .i64 k), (17, J), (70, J), (71, J), (72, J), (73, J), (74, J), (75, J), (76, J), (77, J), (78, J), (79, J), (80, J), (81, J), (82, J), (83, J), (84, J), (85, J), (86, J), (87, J), (88, J), (89, J), (90, J), (91, J), (92, J), (93, J), (94, J), (95, J), (96, J), (97, J), (98, J), (99, J), (100, J), (101, J), (102, J), (103, J), (104, J), (105, J)]) (fun k => [(2, ⟨Is 65536 (inn (tg s) (v s) pv k), true⟩)]) (len (s >>> (4 * c) &&& 15)) ?_ ?_ ?_ <;> (try simp only [patT_cons, patT_nil, patL_cons, patL_nil, list_set_zero, list_set_succ, blk_set_zero, blk_set_succ])
          · rw [inn_zero]
            (refine Drop_slots (by first | exact Nat.le_refl _ | simp) ?_; focus ((try simp only [JL_same, JL_J, JL_nil, Int.reduceAdd, Nat.sub_sub, Int.natCast_add, Int.natCast_one, Int.natCast_zero, Int.cast_ofNat_Int, Nat.add_zero, Bool.false_eq_true, if_false, if_true]); (try exact JL_refl _)))
          · intro k hk
            rw [← inn_next, htg1]
            have hFk := hF (s >>> (4 * c) &&& 15) k
            have hx : (s >>> (4 * c) &&& 15) ^^^ F (s >>> (4 * c) &&& 15) k < 16 := Nat.xor_lt_two_pow (n := 4) ha hFk
            have hsh := shl_c hx hc
            have hws := wrap_N (Nat.lt_trans hsh (by decide))
            have htl := tgN_lt hc hs hFk
            have htd := tgN_is c s (F (s >>> (4 * c) &&& 15) k)
            have hs1 := look_old hsp [⟨Ci m bx mx pl r, true⟩, ⟨Is 65536 v, true⟩, ⟨Is 65536 (inn (tg s) (v s) pv k), true⟩]
            have hr1 := look_old (hrow _ ha) [⟨Ci m bx mx pl r, true⟩, ⟨Is 65536 v, true⟩, ⟨Is 65536 (inn (tg s) (v s) pv k), true⟩]
            (repeat (first | ((first | (refine And.intro ?_ ?_; focus (first | exact plain_agg (by simp only [go_sem]) | exact plain_two (by first | exact plain_agg (by simp only [go_sem]) | rfl) rfl | rfl)) | refine WA_seq (WA_region ?_) | refine WA_region ?_ | refine WA_exit ?_); try simp (maxSteps := 1000000) (disch := first | omega | rfl | decide | (simp only [List.length_cons, List.length_nil, List.length_append, Bs_length, Is_length, Vs_length, Bl_length, Il_length] <;> omega)) only [go_sem, Nat.reduceAdd, Int.reduceAdd, Int.reduceSub, Int.reduceMul, Bool.not_true, Bool.not_false, hs1, hr1, hws, htd, min_if]) | (refine (WA_rb (id := 27) [12] (SubM.refl _) mixedOk ?_); simp only [List.size_toArray, List.length_cons, List.length_nil]; (repeat (first | ((first | (refine And.intro ?_ ?_; focus (first | exact plain_agg (by simp only [go_sem]) | exact plain_two (by first | exact plain_agg (by simp only [go_sem]) | rfl) rfl | rfl)) | refine RB_take false [0, 1, 2, 3, 4, 6, 7, 8] 5 (by rfl) (by kernel_rfl) (by decide) (by decide +kernel) ?_ | refine RB_take true [5, 9] 3 (by rfl) (by kernel_rfl) (by decide) (by decide +kernel) ?_ | refine RB_take false [10, 11] 1 (by rfl) (by kernel_rfl) (by decide) (by decide +kernel) ?_ | refine RB_exec 12 _ (by rfl) (by decide +kernel) (by decide +kernel) ?_ | refine RB_done (by decide +kernel) ?_); try simp (maxSteps := 1000000) (disch := first | omega | rfl | decide | (simp only [List.length_cons, List.length_nil, List.length_append, Bs_length, Is_length, Vs_length, Bl_length, Il_length] <;> omega)) only [go_sem, Nat.reduceAdd, Int.reduceAdd, Int.reduceSub, Int.reduceMul, Bool.not_true, Bool.not_false, hs1, hr1, hws, htd, min_if])))) | refine WA_seq ?_ | refine WA_block ?_ | (refine WA_skip ?_; try simp only [go_sem]) | (refine WA_ret ?_; try simp only [go_sem]) | refine WA_ct rfl ?_ | refine WA_cf rfl ?_))
            (refine Drop_slots (by first | exact Nat.le_refl _ | simp) ?_; focus ((try simp only [JL_same, JL_J, JL_nil, Int.reduceAdd, Nat.sub_sub, Int.natCast_add, Int.natCast_one, Int.natCast_zero, Int.cast_ofNat_Int, Nat.add_zero, Bool.false_eq_true, if_false, if_true]); (try exact JL_refl _)))
          · have hs2 := look_old hsp [⟨Ci m bx mx pl r, true⟩, ⟨Is 65536 v, true⟩, ⟨Is 65536 (inn (tg s) (v s) pv (len (s >>> (4 * c) &&& 15))), true⟩]
            (repeat (first | ((first | (refine And.intro ?_ ?_; focus (first | exact plain_agg (by simp only [go_sem]) | exact plain_two (by first | exact plain_agg (by simp only [go_sem]) | rfl) rfl | rfl)) | refine WA_seq (WA_region ?_) | refine WA_region ?_ | refine WA_exit ?_); try simp (maxSteps := 1000000) (disch := first | omega | rfl | decide | (simp only [List.length_cons, List.length_nil, List.length_append, Bs_length, Is_length, Vs_length, Bl_length, Il_length] <;> omega)) only [go_sem, Nat.reduceAdd, Int.reduceAdd, Int.reduceSub, Int.reduceMul, Bool.not_true, Bool.not_false, hs2]) | refine WA_seq ?_ | refine WA_block ?_ | (refine WA_skip ?_; try simp only [go_sem]) | (refine WA_ret ?_; try simp only [go_sem]) | refine WA_ct rfl ?_ | refine WA_cf rfl ?_))
            (refine Drop_slots (by first | exact Nat.le_refl _ | simp) ?_; focus ((try simp only [JL_same, JL_J, JL_nil, Int.reduceAdd, Nat.sub_sub, Int.natCast_add, Int.natCast_one, Int.natCast_zero, Int.cast_ofNat_Int, Nat.add_zero, Bool.false_eq_true, if_false, if_true]); (try exact JL_refl _)))
        · (repeat (first | ((first | (refine And.intro ?_ ?_; focus (first | exact plain_agg (by simp only [go_sem]) | exact plain_two (by first | exact plain_agg (by simp only [go_sem]) | rfl) rfl | rfl)) | refine WA_seq (WA_region ?_) | refine WA_region ?_ | refine WA_exit ?_); try simp (maxSteps := 1000000) (disch := first | omega | rfl | decide | (simp only [List.length_cons, List.length_nil, List.length_append, Bs_length, Is_length, Vs_length, Bl_length, Il_length] <;> omega)) only [go_sem, Nat.reduceAdd, Int.reduceAdd, Int.reduceSub, Int.reduceMul, Bool.not_true, Bool.not_false]) | refine WA_seq ?_ | refine WA_block ?_ | (refine WA_skip ?_; try simp only [go_sem]) | (refine WA_ret ?_; try simp only [go_sem]) | refine WA_ct rfl ?_ | refine WA_cf rfl ?_))
          (refine Drop_gc [0, 2] (by first | exact Nat.le_refl _ | first | assumption | omega | (simp only [List.length_append, List.length_cons, List.length_nil, List.length_replicate]; omega)) (by assumption) (by decide) ?_ ?_; (focus (repeat (first | exact trivial | (refine And.intro ⟨_, rfl, ?_⟩ ?_; (focus first | (refine Fit_plain ?_; simp only [go_sem, List.all_append, List.all_cons, List.all_nil, Bool.and_self]; done) | exact Fit_nil rfl | exact Fit_dead | (refine Fit_eq ?_ ?_; (focus simp only [go_sem, List.all_append, List.all_cons, List.all_nil, Bool.and_self]); (focus (first | rfl | (simp only [Int.natCast_add, Int.natCast_one, Int.natCast_zero, Int.cast_ofNat_Int, Nat.add_zero]; done) | (simp only [Int.natCast_add, Int.natCast_one, Int.natCast_zero, Int.cast_ofNat_Int, Nat.add_zero]; rfl))))))))); (focus (repeat (first | exact JR_nil | refine JR_J ?_ | (refine JR_plain ?_ ?_; (focus first | rfl | (refine plain_agg ?_; simp only [go_sem, List.all_append, List.all_cons, List.all_nil, Bool.and_self]; done))) | ((first | refine JR_pt ?_ ?_ ?_ | refine JR_sl ?_ ?_ ?_); (focus first | (rw [rhoF_new0]; rfl) | (rw [rhoF_new]; rfl) | (rw [rhoF_old]; first | assumption | omega)); (focus first | assumption | omega | (simp only [List.length_append, List.length_cons, List.length_nil, List.length_replicate]; omega))) | (refine JR_plain' ?_ ?_ ?_; (focus first | rfl | (refine plain_agg ?_; simp only [go_sem, List.all_append, List.all_cons, List.all_nil, Bool.and_self]; done)); (focus (first | rfl | (simp only [Int.natCast_add, Int.natCast_one, Int.natCast_zero, Int.cast_ofNat_Int, Nat.add_zero]; done) | (simp only [Int.natCast_add, Int.natCast_one, Int.natCast_zero, Int.cast_ofNat_Int, Nat.add_zero]; rfl)))) | (refine JR_sl' ?_ ?_ ?_ ?_; (focus first | (rw [rhoF_new0]; rfl) | (rw [rhoF_new]; rfl) | (rw [rhoF_old]; first | assumption | omega)); (focus first | assumption | omega | (simp only [List.length_append, List.length_cons, List.length_nil, List.length_replicate]; omega)); (focus first | rfl | omega | (first | rfl | (simp only [Int.natCast_add, Int.natCast_one, Int.natCast_zero, Int.cast_ofNat_Int, Nat.add_zero]; done) | (simp only [Int.natCast_add, Int.natCast_one, Int.natCast_zero, Int.cast_ofNat_Int, Nat.add_zero]; rfl))))))))
    · (repeat (first | ((first | (refine And.intro ?_ ?_; focus (first | exact plain_agg (by simp only [go_sem]) | exact plain_two (by first | exact plain_agg (by simp only [go_sem]) | rfl) rfl | rfl)) | refine WA_seq (WA_region ?_) | refine WA_region ?_ | refine WA_exit ?_); try simp (maxSteps := 1000000) (disch := first | omega | rfl | decide | (simp only [List.length_cons, List.length_nil, List.length_append, Bs_length, Is_length, Vs_length, Bl_length, Il_length] <;> omega)) only [go_sem, Nat.reduceAdd, Int.reduceAdd, Int.reduceSub, Int.reduceMul, Bool.not_true, Bool.not_false]) | refine WA_seq ?_ | refine WA_block ?_ | (refine WA_skip ?_; try simp only [go_sem]) | (refine WA_ret ?_; try simp only [go_sem]) | refine WA_ct rfl ?_ | refine WA_cf rfl ?_))
      refine WA_forP (fun k => [(18, .int .i64 k), (107, J), (108, J), (109, J), (110, J), (111, J), (112, J), (113, J), (114, J), (115, J), (116, J), (117, J), (118, J), (119, J), (120, J)]) (fun k => [(1, ⟨Is 65536 (adF (colN F len (mvC pl f 0 65536) 4) k), true⟩)]) (65536) ?_ ?_ ?_ <;> (try simp only [patT_cons, patT_nil, patL_cons, patL_nil, list_set_zero, list_set_succ, blk_set_zero, blk_set_succ])
      · rw [adF_zero]
        (refine Drop_slots (by first | exact Nat.le_refl _ | simp) ?_; focus ((try simp only [JL_same, JL_J, JL_nil, Int.reduceAdd, Nat.sub_sub, Int.natCast_add, Int.natCast_one, Int.natCast_zero, Int.cast_ofNat_Int, Nat.add_zero, Bool.false_eq_true, if_false, if_true]); (try exact JL_refl _)))
      · intro s hs
        have hb0 : 0 ≤ colN F len (mvC pl f 0 65536) 4 s := colN_bd (fun t _ => mv0 t) 4 s hs
        have hb1 : colN F len (mvC pl f 0 65536) 4 s ≤ 1000 := colN_le (fun t _ => mv0 t) 3 s
        have hpp := popP_le s 16
        generalize colN F len (mvC pl f 0 65536) 4 = v at *
        have hwv := wrap_i64 (n := v s + ((popP s 16 : Nat) : Int)) (by omega) (by omega)
        (repeat (first | ((first | (refine And.intro ?_ ?_; focus (first | exact plain_agg (by simp only [go_sem]) | exact plain_two (by first | exact plain_agg (by simp only [go_sem]) | rfl) rfl | rfl)) | ((first | with_reducible apply callB_i | with_reducible apply callK_intro | with_reducible apply callQ_i); (focus (first | assumption | (with_reducible apply bitsS_ac hs <;> (first | assumption | rfl | (simp (disch := omega) only [go_sem]; first | done | rfl) | omega | decide | (simp; done))))); (try (focus (refine WP.mk ?_ ?_; (focus ((repeat (first | exact trivial | (refine And.intro ?_ ?_; (focus first | exact plainV_wf rfl | (refine plainV_wf (plain_agg ?_); simp only [go_sem]; done) | (simp only [wfV, wf1, wfC, List.length_append, List.length_cons, List.length_nil]; omega))))))); (focus (first | rfl | (refine plain_agg ?_; simp only [go_sem]; done) | (refine plain_two ?_ ?_ <;> first | rfl | (refine plain_agg ?_; simp only [go_sem]; done)))))))) | refine WA_seq (WA_region ?_) | refine WA_region ?_ | refine WA_exit ?_); try simp (maxSteps := 1000000) (disch := first | omega | rfl | decide | (simp only [List.length_cons, List.length_nil, List.length_append, Bs_length, Is_length, Vs_length, Bl_length, Il_length] <;> omega)) only [go_sem, Nat.reduceAdd, Int.reduceAdd, Int.reduceSub, Int.reduceMul, Bool.not_true, Bool.not_false, adF_at, hwv, adF_next]) | (refine (WA_rb (id := 32) [10] (SubM.refl _) mixedOk ?_); simp only [List.size_toArray, List.length_cons, List.length_nil]; (repeat (first | ((first | (refine And.intro ?_ ?_; focus (first | exact plain_agg (by simp only [go_sem]) | exact plain_two (by first | exact plain_agg (by simp only [go_sem]) | rfl) rfl | rfl)) | ((first | with_reducible apply callB_i | with_reducible apply callK_intro | with_reducible apply callQ_i); (focus (first | assumption | (with_reducible apply bitsS_ac hs <;> (first | assumption | rfl | (simp (disch := omega) only [go_sem]; first | done | rfl) | omega | decide | (simp; done))))); (try (focus (refine WP.mk ?_ ?_; (focus ((repeat (first | exact trivial | (refine And.intro ?_ ?_; (focus first | exact plainV_wf rfl | (refine plainV_wf (plain_agg ?_); simp only [go_sem]; done) | (simp only [wfV, wf1, wfC, List.length_append, List.length_cons, List.length_nil]; omega))))))); (focus (first | rfl | (refine plain_agg ?_; simp only [go_sem]; done) | (refine plain_two ?_ ?_ <;> first | rfl | (refine plain_agg ?_; simp only [go_sem]; done)))))))) | refine RB_take false [0, 1, 2, 3, 4, 6] 5 (by rfl) (by kernel_rfl) (by decide) (by decide +kernel) ?_ | refine RB_take true [5, 7] 3 (by rfl) (by kernel_rfl) (by decide) (by decide +kernel) ?_ | refine RB_take false [8, 9] 1 (by rfl) (by kernel_rfl) (by decide) (by decide +kernel) ?_ | refine RB_exec 10 _ (by rfl) (by decide +kernel) (by decide +kernel) ?_ | refine RB_done (by decide +kernel) ?_); try simp (maxSteps := 1000000) (disch := first | omega | rfl | decide | (simp only [List.length_cons, List.length_nil, List.length_append, Bs_length, Is_length, Vs_length, Bl_length, Il_length] <;> omega)) only [go_sem, Nat.reduceAdd, Int.reduceAdd, Int.reduceSub, Int.reduceMul, Bool.not_true, Bool.not_false, adF_at, hwv, adF_next])))) | refine WA_seq ?_ | refine WA_block ?_ | (refine WA_skip ?_; try simp only [go_sem]) | (refine WA_ret ?_; try simp only [go_sem]) | refine WA_ct rfl ?_ | refine WA_cf rfl ?_))
        (refine Drop_slots (by first | exact Nat.le_refl _ | simp) ?_; focus ((try simp only [JL_same, JL_J, JL_nil, Int.reduceAdd, Nat.sub_sub, Int.natCast_add, Int.natCast_one, Int.natCast_zero, Int.cast_ofNat_Int, Nat.add_zero, Bool.false_eq_true, if_false, if_true]); (try exact JL_refl _)))
      · rw [rdS_is]
        (repeat (first | ((first | (refine And.intro ?_ ?_; focus (first | exact plain_agg (by simp only [go_sem]) | exact plain_two (by first | exact plain_agg (by simp only [go_sem]) | rfl) rfl | rfl)) | refine WA_seq (WA_region ?_) | refine WA_region ?_ | refine WA_exit ?_); try simp (maxSteps := 1000000) (disch := first | omega | rfl | decide | (simp only [List.length_cons, List.length_nil, List.length_append, Bs_length, Is_length, Vs_length, Bl_length, Il_length] <;> omega)) only [go_sem, Nat.reduceAdd, Int.reduceAdd, Int.reduceSub, Int.reduceMul, Bool.not_true, Bool.not_false]) | refine WA_seq ?_ | refine WA_block ?_ | (refine WA_skip ?_; try simp only [go_sem]) | (refine WA_ret ?_; try simp only [go_sem]) | refine WA_ct rfl ?_ | refine WA_cf rfl ?_))
        ((first | refine ret_none (by first | exact .inr rfl | exact .inl rfl) ?_ | refine ret_same (by first | exact .inr rfl | exact .inl rfl) ?_ (by first | rfl | exact plain_agg (by simp only [go_sem]) | exact plain_two (by first | exact plain_agg (by simp only [go_sem]) | rfl) (by first | exact plain_agg (by simp only [go_sem]) | rfl)) | refine ret_full (by first | exact .inr rfl | exact .inl rfl) (by simp) ?_); simp (maxSteps := 1000000) (disch := first | omega | rfl | decide | (simp only [List.length_cons, List.length_nil, List.length_append, Bs_length, Is_length, Vs_length, Bl_length, Il_length] <;> omega)) only [go_sem, Nat.reduceAdd, Int.reduceAdd, Int.reduceSub, Int.reduceMul, Bool.not_true, Bool.not_false]; try rfl)

end Go.Proofs.Ytkgiocoiojdgfaa
/- Least activity: a column of the program. -/
namespace Go.Proofs.Ytkgiocoiojdgfaa
set_option linter.unusedSimpArgs false
set_option linter.unusedVariables false
set_option maxRecDepth 20000
set_option maxHeartbeats 1000000
open Go.Abs

theorem bits_andNot_N {a b : Nat} (ha : a < 9223372036854775808) (hb : b < 9223372036854775808) : bits .andNot .i64 (a : Int) (b : Int) = ((a ^^^ (a &&& b) : Nat) : Int) := by
  have hx : a ^^^ (a &&& b) < 2 ^ 63 := Nat.xor_lt_two_pow (by omega) (Nat.lt_of_le_of_lt Nat.and_le_left (by omega))
  have e : (BitVec.ofInt 64 (a : Int) &&& ~~~ BitVec.ofInt 64 (b : Int)).toNat = a ^^^ (a &&& b) := by
    refine Nat.eq_of_testBit_eq fun i => ?_
    rw [BitVec.testBit_toNat, BitVec.getLsbD_and, BitVec.getLsbD_not, ← BitVec.testBit_toNat, ← BitVec.testBit_toNat, ofInt64_nat (by omega), ofInt64_nat (by omega), Nat.testBit_xor, Nat.testBit_and]
    by_cases hi : i < 64
    · rw [decide_eq_true hi]
      cases a.testBit i <;> cases b.testBit i <;> rfl
    · rw [Nat.testBit_lt_two_pow (x := a) (Nat.lt_of_lt_of_le (show a < 2 ^ 64 by omega) (Nat.pow_le_pow_right (by omega) (by omega)))]
      rfl
  show IntKind.i64.wrap ((BitVec.ofInt 64 (a : Int) &&& ~~~ BitVec.ofInt 64 (b : Int)).toNat : Int) = _
  rw [e, wrap_i64 (by omega) (by omega)]
theorem rep1_ac {h : List Blk} {b : Nat} {c : Int} {r : Bool} (hb : h[b]? = some ⟨[.int .i64 c], r⟩) : AC Try.prog 127 [sl b 0 1 1, .int .i64 65536] h (sl h.length 0 65536 1) (h ++ [⟨Is 65536 fun _ => c, true⟩]) := rep_ac (c := c) (r := r) hb
theorem inn_skp {tg : Nat → Nat} {x : Int} {f : Nat → Int} (hx : x = 1000) (hf : ∀ t, f t ≤ 1000) (k : Nat) : inn tg x f k = f := by
  subst hx; exact inn_skip hf k
attribute [local irreducible] Is mvM mvC cols inn colN rpF adF tgN Vs
theorem bec_ac {v : Nat → Int} {g len : Nat → Nat} {F : Nat → Nat → Nat} {cb c : Nat} {h : List Blk} {rc : Bool} (hc : c < 4)
    (hrow : ∀ j, j < 16 → h[g j]? = some ⟨Is (len j) fun i => ((F j i : Nat) : Int), true⟩) (hF : ∀ j i, F j i < 16) (hlen : ∀ j, len j ≤ 1000)
    (hcb : h[cb]? = some ⟨Is 65536 v, rc⟩) (hv : ∀ s, s < 65536 → 0 ≤ v s) :
    AC Try.prog 129 [sl cb 0 65536 1, .int .i64 ((c : Nat) : Int), .agg (Vs 16 fun j => sl (g j) 0 (len j) 1).toArray] h (sl (h.length + 2) 0 65536 1)
      (h ++ [⟨Vs 16 fun j => sl (g j) 0 (len j) 1, true⟩, ⟨[.int .i64 1000], true⟩, ⟨Is 65536 (cols (fun s k => tgN c s (F (s >>> (4 * c) &&& 15) k)) (fun s => len (s >>> (4 * c) &&& 15)) v (fun _ => 1000) 65536), true⟩]) := by
  have hbl := blt hcb
  have hgl : ∀ j, j < 16 → g j < h.length := fun j hj => blt (hrow j hj)
  generalize htg : (fun s k => tgN c s (F (s >>> (4 * c) &&& 15) k)) = tg
  generalize hln : (fun s => len (s >>> (4 * c) &&& 15)) = ln
  (refine AC_begin (fun _ _ => Try.call129 _ _) Try.func129 rfl Try.ntmps129 Try.results129 (fun hwf => ?_); simp only [List.length_cons, List.length_nil, Nat.reduceAdd, Nat.reduceSub, List.replicate, List.cons_append, List.nil_append])
  (repeat (first | ((first | (refine And.intro ?_ ?_; focus (first | exact plain_agg (by simp only [go_sem]) | exact plain_two (by first | exact plain_agg (by simp only [go_sem]) | rfl) rfl | rfl)) | ((first | with_reducible apply callB_i | with_reducible apply callK_intro | with_reducible apply callQ_i); (focus (first | assumption | (with_reducible apply rep1_ac <;> (first | assumption | (refine look_old ?_ _; assumption) | rfl | (simp (disch := omega) only [go_sem]; first | done | rfl) | omega | decide | (simp; done))))); (try (focus (refine WP.mk ?_ ?_; (focus ((repeat (first | exact trivial | (refine And.intro ?_ ?_; (focus first | exact plainV_wf rfl | (refine plainV_wf (plain_agg ?_); simp only [go_sem]; done) | (simp only [wfV, wf1, wfC, List.length_append, List.length_cons, List.length_nil]; omega))))))); (focus (first | rfl | (refine plain_agg ?_; simp only [go_sem]; done) | (refine plain_two ?_ ?_ <;> first | rfl | (refine plain_agg ?_; simp only [go_sem]; done)))))))) | refine WA_seq (WA_region ?_) | refine WA_region ?_ | refine WA_exit ?_); try simp (maxSteps := 1000000) (disch := first | omega | rfl | decide | (simp only [List.length_cons, List.length_nil, List.length_append, Bs_length, Is_length, Vs_length, Bl_length, Il_length] <;> omega)) only [go_sem, Nat.reduceAdd, Int.reduceAdd, Int.reduceSub, Int.reduceMul, Bool.not_true, Bool.not_false]) | refine WA_seq ?_ | refine WA_block ?_ | (refine WA_skip ?_; try simp only [go_sem]) | (refine WA_ret ?_; try simp only [go_sem]) | refine WA_ct rfl ?_ | refine WA_cf rfl ?_))
  refine WA_forP (fun k => [(8, J), (9, J), (10, J), (12, J), (13, J), (20, .int .i64 k), (21, J), (22, J), (23, J), (24, J), (25, J), (26, J), (27, J), (28, J), (29, J), (30, J), (31, J), (32, J), (33, J), (34, J), (35, J), (36, J), (37, J), (38, J), (39, J), (40, J), (41, J), (42, J), (43, J), (44, J), (45, J), (46, J), (47, J), (48, J), (49, J), (50, J), (51, J), (52, J), (53, J), (54, J), (55, J), (56, J), (57, J), (58, J), (59, J), (60, J)]) (fun k => [(2, ⟨Is 65536 (cols tg ln v (fun _ => 1000) k), true⟩)]) (65536) ?_ ?_ ?_ <;> (try simp only [patT_cons, patT_nil, patL_cons, patL_nil, list_set_zero, list_set_succ, blk_set_zero, blk_set_succ])
  · rw [cols_zero]
    (refine Drop_slots (by first | exact Nat.le_refl _ | simp) ?_; focus ((try simp only [JL_same, JL_J, JL_nil, Int.reduceAdd, Nat.sub_sub, Int.natCast_add, Int.natCast_one, Int.natCast_zero, Int.cast_ofNat_Int, Nat.add_zero, Bool.false_eq_true, if_false, if_true]); (try exact JL_refl _)))
  · intro s hs
    have ha : s >>> (4 * c) &&& 15 < 16 := Nat.lt_of_le_of_lt Nat.and_le_right (by omega)
    have hsr := Nat.shiftRight_le s (4 * c)
    rw [← cols_next tg ln v _ s]
    have hc0 := look_old hcb [⟨Vs 16 fun j => sl (g j) 0 (len j) 1, true⟩, ⟨[.int .i64 1000], true⟩, ⟨Is 65536 (cols tg ln v (fun _ => 1000) s), true⟩]
    have hl := hlen (s >>> (4 * c) &&& 15)
    have hln1 : ln s = len (s >>> (4 * c) &&& 15) := by rw [← hln]
    have htg1 : ∀ k, tg s k = tgN c s (F (s >>> (4 * c) &&& 15) k) := fun k => by rw [← htg]
    have hle : ∀ t, cols tg ln v (fun _ => 1000) s t ≤ 1000 := fun t => (cols_bd (fun _ => by omega) s (fun i hi => hv i (by omega)) t).2
    rw [hln1]
    generalize hpv : cols tg ln v (fun _ => 1000) s = pv at *
    by_cases hk : v s = 1000
    · have hb : (v s == 1000) = true := by rw [hk]; rfl
      rw [inn_skp hk hle]
      (repeat (first | ((first | (refine And.intro ?_ ?_; focus (first | exact plain_agg (by simp only [go_sem]) | exact plain_two (by first | exact plain_agg (by simp only [go_sem]) | rfl) rfl | rfl)) | refine WA_seq (WA_region ?_) | refine WA_region ?_ | refine WA_exit ?_); try simp (maxSteps := 1000000) (disch := first | omega | rfl | decide | (simp only [List.length_cons, List.length_nil, List.length_append, Bs_length, Is_length, Vs_length, Bl_length, Il_length] <;> omega)) only [go_sem, Nat.reduceAdd, Int.reduceAdd, Int.reduceSub, Int.reduceMul, Bool.not_true, Bool.not_false, hc0, hb]) | refine WA_seq ?_ | refine WA_block ?_ | (refine WA_skip ?_; try simp only [go_sem]) | (refine WA_ret ?_; try simp only [go_sem]) | refine WA_ct rfl ?_ | refine WA_cf rfl ?_))
      (refine Drop_slots (by first | exact Nat.le_refl _ | simp) ?_; focus ((try simp only [JL_same, JL_J, JL_nil, Int.reduceAdd, Nat.sub_sub, Int.natCast_add, Int.natCast_one, Int.natCast_zero, Int.cast_ofNat_Int, Nat.add_zero, Bool.false_eq_true, if_false, if_true]); (try exact JL_refl _)))
    · have hb : (v s == 1000) = false := by rw [beq_eq_false_iff_ne]; exact hk
      have h15 := shl_c (v := 15) (by omega) hc
      have hw15 : IntKind.i64.wrap (15 * 2 ^ min (4 * c) 64) = ((15 <<< (4 * c) : Nat) : Int) := by
        have e : (15 : Int) * (2 : Int) ^ min (4 * c) 64 = ((15 <<< (4 * c) : Nat) : Int) := by
          rw [Nat.min_eq_left (by omega), pow_cast, Nat.shiftLeft_eq, Int.natCast_mul]; rfl
        rw [e]; exact wrap_N (by omega)
      have han := bits_andNot_N (a := s) (b := 15 <<< (4 * c)) (by omega) (by omega)
      have hxl : s ^^^ (s &&& 15 <<< (4 * c)) < 65536 := Nat.xor_lt_two_pow (n := 16) hs (Nat.lt_of_le_of_lt Nat.and_le_left hs)
      (repeat (first | ((first | (refine And.intro ?_ ?_; focus (first | exact plain_agg (by simp only [go_sem]) | exact plain_two (by first | exact plain_agg (by simp only [go_sem]) | rfl) rfl | rfl)) | refine WA_seq (WA_region ?_) | refine WA_region ?_ | refine WA_exit ?_); try simp (maxSteps := 1000000) (disch := first | omega | rfl | decide | (simp only [List.length_cons, List.length_nil, List.length_append, Bs_length, Is_length, Vs_length, Bl_length, Il_length] <;> omega)) only [go_sem, Nat.reduceAdd, Int.reduceAdd, Int.reduceSub, Int.reduceMul, Bool.not_true, Bool.not_false, hc0, hb, hw15, han]) | refine WA_seq ?_ | refine WA_block ?_ | (refine WA_skip ?_; try simp only [go_sem]) | (refine WA_ret ?_; try simp only [go_sem]) | refine WA_ct rfl ?_ | refine WA_cf rfl ?_))
      refine WA_forP (fun k => [(12, J), (13, J), (40, .int .i64 k), (41, J), (42, J), (43, J), (44, J), (45, J), (46, J), (47, J), (48, J), (49, J), (50, J), (51, J), (52, J), (53, J), (54, J), (55, J), (56, J), (57, J), (58, J), (59, J)]) (fun k => [(2, ⟨Is 65536 (inn (tg s) (v s) pv k), true⟩)]) (len (s >>> (4 * c) &&& 15)) ?_ ?_ ?_ <;> (try simp only [patT_cons, patT_nil, patL_cons, patL_nil, list_set_zero, list_set_succ, blk_set_zero, blk_set_succ])
      · rw [inn_zero]
        (refine Drop_slots (by first | exact Nat.le_refl _ | simp) ?_; focus ((try simp only [JL_same, JL_J, JL_nil, Int.reduceAdd, Nat.sub_sub, Int.natCast_add, Int.natCast_one, Int.natCast_zero, Int.cast_ofNat_Int, Nat.add_zero, Bool.false_eq_true, if_false, if_true]); (try exact JL_refl _)))
      · intro k hk
        rw [← inn_next, htg1]
        have hFk := hF (s >>> (4 * c) &&& 15) k
        have hsh := shl_c hFk hc
        have hws := wrap_N (n := F (s >>> (4 * c) &&& 15) k <<< (4 * c)) (by omega)
        have htl := tgN_lt hc hs hFk
        have htd := tgN_or (c := c) (s := s) hFk
        have hr1 := look_old (hrow _ ha) [⟨Vs 16 fun j => sl (g j) 0 (len j) 1, true⟩, ⟨[.int .i64 1000], true⟩, ⟨Is 65536 (inn (tg s) (v s) pv k), true⟩]
        (repeat (first | ((first | (refine And.intro ?_ ?_; focus (first | exact plain_agg (by simp only [go_sem]) | exact plain_two (by first | exact plain_agg (by simp only [go_sem]) | rfl) rfl | rfl)) | refine WA_seq (WA_region ?_) | refine WA_region ?_ | refine WA_exit ?_); try simp (maxSteps := 1000000) (disch := first | omega | rfl | decide | (simp only [List.length_cons, List.length_nil, List.length_append, Bs_length, Is_length, Vs_length, Bl_length, Il_length] <;> omega)) only [go_sem, Nat.reduceAdd, Int.reduceAdd, Int.reduceSub, Int.reduceMul, Bool.not_true, Bool.not_false, hr1, hws, htd, min_if]) | refine WA_seq ?_ | refine WA_block ?_ | (refine WA_skip ?_; try simp only [go_sem]) | (refine WA_ret ?_; try simp only [go_sem]) | refine WA_ct rfl ?_ | refine WA_cf rfl ?_))
        (refine Drop_slots (by first | exact Nat.le_refl _ | simp) ?_; focus ((try simp only [JL_same, JL_J, JL_nil, Int.reduceAdd, Nat.sub_sub, Int.natCast_add, Int.natCast_one, Int.natCast_zero, Int.cast_ofNat_Int, Nat.add_zero, Bool.false_eq_true, if_false, if_true]); (try exact JL_refl _)))
      · (repeat (first | ((first | (refine And.intro ?_ ?_; focus (first | exact plain_agg (by simp only [go_sem]) | exact plain_two (by first | exact plain_agg (by simp only [go_sem]) | rfl) rfl | rfl)) | refine WA_seq (WA_region ?_) | refine WA_region ?_ | refine WA_exit ?_); try simp (maxSteps := 1000000) (disch := first | omega | rfl | decide | (simp only [List.length_cons, List.length_nil, List.length_append, Bs_length, Is_length, Vs_length, Bl_length, Il_length] <;> omega)) only [go_sem, Nat.reduceAdd, Int.reduceAdd, Int.reduceSub, Int.reduceMul, Bool.not_true, Bool.not_false]) | refine WA_seq ?_ | refine WA_block ?_ | (refine WA_skip ?_; try simp only [go_sem]) | (refine WA_ret ?_; try simp only [go_sem]) | refine WA_ct rfl ?_ | refine WA_cf rfl ?_))
        (refine Drop_slots (by first | exact Nat.le_refl _ | simp) ?_; focus ((try simp only [JL_same, JL_J, JL_nil, Int.reduceAdd, Nat.sub_sub, Int.natCast_add, Int.natCast_one, Int.natCast_zero, Int.cast_ofNat_Int, Nat.add_zero, Bool.false_eq_true, if_false, if_true]); (try exact JL_refl _)))
  · (repeat (first | ((first | (refine And.intro ?_ ?_; focus (first | exact plain_agg (by simp only [go_sem]) | exact plain_two (by first | exact plain_agg (by simp only [go_sem]) | rfl) rfl | rfl)) | refine WA_seq (WA_region ?_) | refine WA_region ?_ | refine WA_exit ?_); try simp (maxSteps := 1000000) (disch := first | omega | rfl | decide | (simp only [List.length_cons, List.length_nil, List.length_append, Bs_length, Is_length, Vs_length, Bl_length, Il_length] <;> omega)) only [go_sem, Nat.reduceAdd, Int.reduceAdd, Int.reduceSub, Int.reduceMul, Bool.not_true, Bool.not_false]) | refine WA_seq ?_ | refine WA_block ?_ | (refine WA_skip ?_; try simp only [go_sem]) | (refine WA_ret ?_; try simp only [go_sem]) | refine WA_ct rfl ?_ | refine WA_cf rfl ?_))
    ((first | refine ret_none (by first | exact .inr rfl | exact .inl rfl) ?_ | refine ret_same (by first | exact .inr rfl | exact .inl rfl) ?_ (by first | rfl | exact plain_agg (by simp only [go_sem]) | exact plain_two (by first | exact plain_agg (by simp only [go_sem]) | rfl) (by first | exact plain_agg (by simp only [go_sem]) | rfl)) | refine ret_full (by first | exact .inr rfl | exact .inl rfl) (by simp) ?_); simp (maxSteps := 1000000) (disch := first | omega | rfl | decide | (simp only [List.length_cons, List.length_nil, List.length_append, Bs_length, Is_length, Vs_length, Bl_length, Il_length] <;> omega)) only [go_sem, Nat.reduceAdd, Int.reduceAdd, Int.reduceSub, Int.reduceMul, Bool.not_true, Bool.not_false]; try rfl)

end Go.Proofs.Ytkgiocoiojdgfaa
/- Least activity: what memory holds. -/
namespace Go.Proofs.Ytkgiocoiojdgfaa
set_option linter.unusedSimpArgs false
set_option linter.unusedVariables false
set_option maxRecDepth 20000
set_option maxHeartbeats 1000000
open Go.Abs

theorem patL_mem (m : Nat) (a : Nat → UInt8) (p : Nat) : ∀ (k : Nat) (x : Int), x ∈ patL m a p k → 0 ≤ x ∧ x < k
  | 0, x, h => by simp [patL] at h
  | k + 1, x, h => by
    rw [patL] at h
    split at h
    · rcases List.mem_append.1 h with h | h
      · have := patL_mem m a p k x h; omega
      · have : x = (k : Int) := by simpa using h
        omega
    · have := patL_mem m a p k x h; omega
theorem paF_bd (m : Nat) (a : Nat → UInt8) (p i : Nat) : 0 ≤ paF m a p i ∧ paF m a p i < 16 := by
  show 0 ≤ (patL m a p 16).getD i 0 ∧ (patL m a p 16).getD i 0 < 16
  rw [List.getD_eq_getElem?_getD]
  rcases Nat.lt_or_ge i (patL m a p 16).length with h | h
  · rw [List.getElem?_eq_getElem h]
    exact patL_mem m a p 16 _ (List.getElem_mem h)
  · rw [List.getElem?_eq_none h]
    exact ⟨by show (0 : Int) ≤ 0; omega, by show (0 : Int) < 16; omega⟩
/-- A pattern's elements as natural numbers. -/
def paN (m : Nat) (a : Nat → UInt8) (p i : Nat) : Nat := (paF m a p i).toNat
theorem paN_lt (m : Nat) (a : Nat → UInt8) (p i : Nat) : paN m a p i < 16 := by
  have := paF_bd m a p i
  unfold paN; omega
theorem paN_is (m : Nat) (a : Nat → UInt8) (p : Nat) : paF m a p = fun i => ((paN m a p i : Nat) : Int) := funext fun i => by
  have := paF_bd m a p i
  unfold paN; omega
theorem paLen_le16 (m : Nat) (a : Nat → UInt8) (j : Nat) : paLen m a j ≤ 1000 := by
  rw [paLen_is]; have := patL_le m a j 16; omega
/-- What memory holds: a cipher, costs, patterns. -/
structure Lay (h M : List Blk) (C : Blk) (cb : Nat) (f : Nat → Int) (pb : Nat) (g len : Nat → Nat) (F : Nat → Nat → Nat) : Prop where
  ci : M[h.length]? = some C
  co : M[cb]? = some ⟨Is 65536 f, true⟩
  sp : M[pb]? = some ⟨Vs 16 fun j => sl (g j) 0 (len j) 1, true⟩
  row : ∀ j, j < 16 → M[g j]? = some ⟨Is (len j) fun i => ((F j i : Nat) : Int), true⟩
  app : ∃ L, M = h ++ L
  nc : h.length < cb
  np : pb ≠ cb
  nr : ∀ j, j < 16 → g j ≠ cb
theorem Lay.set {h M : List Blk} {C : Blk} {cb pb : Nat} {f : Nat → Int} {g len : Nat → Nat} {F : Nat → Nat → Nat} (x : Lay h M C cb f pb g len F) (f' : Nat → Int) : Lay h (M.set cb ⟨Is 65536 f', true⟩) C cb f' pb g len F where
  ci := by rw [List.getElem?_set_ne (by have := x.nc; omega)]; exact x.ci
  co := look_set (blt x.co)
  sp := by rw [List.getElem?_set_ne (Ne.symm x.np)]; exact x.sp
  row := fun j hj => by rw [List.getElem?_set_ne (Ne.symm (x.nr j hj))]; exact x.row j hj
  app := by
    obtain ⟨L, e⟩ := x.app
    exact ⟨L.set (cb - h.length) _, by rw [e]; exact List.set_append_right _ _ (Nat.le_of_lt x.nc)⟩
  nc := x.nc
  np := x.np
  nr := x.nr
theorem Lay.len {h M : List Blk} {C : Blk} {cb pb : Nat} {f : Nat → Int} {g len : Nat → Nat} {F : Nat → Nat → Nat} (x : Lay h M C cb f pb g len F) : h.length < M.length := blt x.ci
theorem Lay.le {h M : List Blk} {C : Blk} {cb pb : Nat} {f : Nat → Int} {g len : Nat → Nat} {F : Nat → Nat → Nat} (x : Lay h M C cb f pb g len F) : h.length ≤ M.length := Nat.le_of_lt (blt x.ci)
theorem Lay.ext {h M : List Blk} {C : Blk} {cb pb : Nat} {f : Nat → Int} {g len : Nat → Nat} {F : Nat → Nat → Nat} (x : Lay h M C cb f pb g len F) {L : List Blk} {k : Nat} {f' : Nat → Int} (hk : L[k]? = some ⟨Is 65536 f', true⟩) : Lay h (M ++ L) C (M.length + k) f' pb g len F where
  ci := look_old x.ci L
  co := by rw [List.getElem?_append_right (by omega), Nat.add_sub_cancel_left]; exact hk
  sp := look_old x.sp L
  row := fun j hj => look_old (x.row j hj) L
  app := by obtain ⟨A, e⟩ := x.app; exact ⟨A ++ L, by rw [e, List.append_assoc]⟩
  nc := by have := x.len; omega
  np := by have := blt x.sp; omega
  nr := fun j hj => by have := blt (x.row j hj); omega
theorem look_in {A L : List Blk} {k : Nat} {x : Blk} (h : L[k]? = some x) : (A ++ L)[A.length + k]? = some x := by rw [List.getElem?_append_right (by omega), Nat.add_sub_cancel_left]; exact h
theorem rows_all (m : Nat) (a : Nat → UInt8) : ∀ n, newL ((List.range n).map (paBl m a)) = true := fun n => by
  unfold newL
  rw [List.all_map, List.all_eq_true]
  intro j _
  show ((paBl m a j).rw || (paBl m a j).cells.isEmpty) = true
  rw [paBl_is]; rfl
theorem newL_app {A B : List Blk} (ha : newL A = true) (hb : newL B = true) : newL (A ++ B) = true := by
  unfold newL at *
  rw [List.all_append, ha, hb]; rfl
theorem rows_at (m : Nat) (a : Nat → UInt8) (T : List Blk) {j : Nat} (hj : j < 16) : ((List.range 16).map (paBl m a) ++ T)[j]? = some ⟨Is (paLen m a j) fun i => ((paN m a j i : Nat) : Int), true⟩ := by
  rw [List.getElem?_append_left (by simpa using hj), List.getElem?_map, List.getElem?_range hj, ← paN_is, ← paBl_Is]; rfl
theorem patS_gen {m : Nat} (h0 : 256 ≤ m) (h1 : m < 512) (hf : fieldB m = true) (bx mx pl : Nat → UInt8) (r : Int) (N : Nat) : ∃ L : List Blk, newL L = true ∧ (∀ j, j < 16 → L[j]? = some ⟨Is (paLen m mx j) fun i => ((paN m mx j i : Nat) : Int), true⟩) ∧
    L[17]? = some ⟨Vs 16 fun j => sl (N + j) 0 (paLen m mx j) 1, true⟩ ∧ ∀ H : List Blk, H.length = N → AC Try.prog 112 [.agg (Ci m bx mx pl r).toArray] H (sl (N + 17) 0 16 1) (H ++ L) := by
  refine ⟨(List.range 16).map (paBl m mx) ++ [⟨Ci m bx mx pl r, true⟩, ⟨Vs 16 (vsp N (paLen m mx)), true⟩], newL_app (rows_all m mx 16) rfl, fun j hj => rows_at m mx _ hj, ?_, fun H hN => ?_⟩
  · exact look_in (A := (List.range 16).map (paBl m mx)) (k := 1) rfl
  · have := patS_ac h0 h1 hf bx mx pl r H
    rw [rowsH_len, rowsH_cut, hN] at this
    exact this
theorem patI_gen {m : Nat} (h0 : 256 ≤ m) (h1 : m < 512) (hf : fieldB m = true) (mx : Nat → UInt8) (N : Nat) : ∃ L : List Blk, newL L = true ∧ (∀ j, j < 16 → L[j]? = some ⟨Is (paLen m mx j) fun i => ((paN m mx j i : Nat) : Int), true⟩) ∧
    L.length = 20 ∧ ∀ H : List Blk, H.length = N → AC Try.prog 117 [.int .i64 m, .agg (Bs 16 mx).toArray] H (.agg (Vs 16 fun j => sl (N + j) 0 (paLen m mx j) 1).toArray) (H ++ L) := by
  refine ⟨(List.range 16).map (paBl m mx) ++ [⟨Bs 16 mx, true⟩, ⟨Vs 16 (vsp N (paLen m mx)), true⟩, ⟨Is 256 (frF m mx), true⟩, ⟨Vs 16 (vsp N (paLen m mx)), true⟩], newL_app (rows_all m mx 16) rfl, fun j hj => rows_at m mx _ hj, by simp, fun H hN => ?_⟩
  have := patI_ac h0 h1 hf mx H
  rw [rowsH_cut, hN] at this
  exact this
theorem lact_S_no {m r : Int} {bx mx pl : Nat → UInt8} (hc : cipB m bx mx pl r = false) (n : Int) (h : List Blk) : AC Try.prog 16 [.agg (Ci m bx mx pl r).toArray, .int .i64 n] h (.tuple #[.int .i64 0, .int .i64 1]) h := by
  (refine AC_begin (fun _ _ => Try.call16 _ _) Try.func16 rfl Try.ntmps16 Try.results16 (fun hwf => ?_); simp only [List.length_cons, List.length_nil, Nat.reduceAdd, Nat.reduceSub, List.replicate, List.cons_append, List.nil_append])
  (repeat (first | ((first | (refine And.intro ?_ ?_; focus (first | exact plain_agg (by simp only [go_sem]) | exact plain_two (by first | exact plain_agg (by simp only [go_sem]) | rfl) rfl | rfl)) | ((first | with_reducible apply callB_i | with_reducible apply callK_intro | with_reducible apply callQ_i); (focus (first | assumption | (with_reducible apply cipS_ac <;> (first | assumption | rfl | (simp (disch := omega) only [go_sem]; first | done | rfl) | omega | decide | (simp; done))))); (try (focus (refine WP.mk ?_ ?_; (focus ((repeat (first | exact trivial | (refine And.intro ?_ ?_; (focus first | exact plainV_wf rfl | (refine plainV_wf (plain_agg ?_); simp only [go_sem]; done) | (simp only [wfV, wf1, wfC, List.length_append, List.length_cons, List.length_nil]; omega))))))); (focus (first | rfl | (refine plain_agg ?_; simp only [go_sem]; done) | (refine plain_two ?_ ?_ <;> first | rfl | (refine plain_agg ?_; simp only [go_sem]; done)))))))) | refine WA_seq (WA_region ?_) | refine WA_region ?_ | refine WA_exit ?_); try simp (maxSteps := 1000000) (disch := first | omega | rfl | decide | (simp only [List.length_cons, List.length_nil, List.length_append, Bs_length, Is_length, Vs_length, Bl_length, Il_length] <;> omega)) only [go_sem, Nat.reduceAdd, Int.reduceAdd, Int.reduceSub, Int.reduceMul, Bool.not_true, Bool.not_false, hc, Bool.not_false]) | refine WA_seq ?_ | refine WA_block ?_ | (refine WA_skip ?_; try simp only [go_sem]) | (refine WA_ret ?_; try simp only [go_sem]) | refine WA_ct rfl ?_ | refine WA_cf rfl ?_))
  ((first | refine ret_none (by first | exact .inr rfl | exact .inl rfl) ?_ | refine ret_same (by first | exact .inr rfl | exact .inl rfl) ?_ (by first | rfl | exact plain_agg (by simp only [go_sem]) | exact plain_two (by first | exact plain_agg (by simp only [go_sem]) | rfl) (by first | exact plain_agg (by simp only [go_sem]) | rfl)) | refine ret_full (by first | exact .inr rfl | exact .inl rfl) (by simp) ?_); simp (maxSteps := 1000000) (disch := first | omega | rfl | decide | (simp only [List.length_cons, List.length_nil, List.length_append, Bs_length, Is_length, Vs_length, Bl_length, Il_length] <;> omega)) only [go_sem, Nat.reduceAdd, Int.reduceAdd, Int.reduceSub, Int.reduceMul, Bool.not_true, Bool.not_false]; try rfl)
theorem lact_S_out {m r : Int} {bx mx pl : Nat → UInt8} (hc : cipB m bx mx pl r = true) {n : Int} (hr : inR n 1 6 = false) (h : List Blk) : AC Try.prog 16 [.agg (Ci m bx mx pl r).toArray, .int .i64 n] h (.tuple #[.int .i64 0, .int .i64 2]) h := by
  have hi := inS_ac n 1 6
  rw [hr] at hi
  (refine AC_begin (fun _ _ => Try.call16 _ _) Try.func16 rfl Try.ntmps16 Try.results16 (fun hwf => ?_); simp only [List.length_cons, List.length_nil, Nat.reduceAdd, Nat.reduceSub, List.replicate, List.cons_append, List.nil_append])
  (repeat (first | ((first | (refine And.intro ?_ ?_; focus (first | exact plain_agg (by simp only [go_sem]) | exact plain_two (by first | exact plain_agg (by simp only [go_sem]) | rfl) rfl | rfl)) | ((first | with_reducible apply callB_i | with_reducible apply callK_intro | with_reducible apply callQ_i); (focus (first | assumption | ((first | with_reducible apply cipS_ac | with_reducible apply hi) <;> (first | assumption | rfl | (simp (disch := omega) only [go_sem]; first | done | rfl) | omega | decide | (simp; done))))); (try (focus (refine WP.mk ?_ ?_; (focus ((repeat (first | exact trivial | (refine And.intro ?_ ?_; (focus first | exact plainV_wf rfl | (refine plainV_wf (plain_agg ?_); simp only [go_sem]; done) | (simp only [wfV, wf1, wfC, List.length_append, List.length_cons, List.length_nil]; omega))))))); (focus (first | rfl | (refine plain_agg ?_; simp only [go_sem]; done) | (refine plain_two ?_ ?_ <;> first | rfl | (refine plain_agg ?_; simp only [go_sem]; done)))))))) | refine WA_seq (WA_region ?_) | refine WA_region ?_ | refine WA_exit ?_); try simp (maxSteps := 1000000) (disch := first | omega | rfl | decide | (simp only [List.length_cons, List.length_nil, List.length_append, Bs_length, Is_length, Vs_length, Bl_length, Il_length] <;> omega)) only [go_sem, Nat.reduceAdd, Int.reduceAdd, Int.reduceSub, Int.reduceMul, Bool.not_true, Bool.not_false, hc, Bool.not_true, Bool.not_false]) | refine WA_seq ?_ | refine WA_block ?_ | (refine WA_skip ?_; try simp only [go_sem]) | (refine WA_ret ?_; try simp only [go_sem]) | refine WA_ct rfl ?_ | refine WA_cf rfl ?_))
  ((first | refine ret_none (by first | exact .inr rfl | exact .inl rfl) ?_ | refine ret_same (by first | exact .inr rfl | exact .inl rfl) ?_ (by first | rfl | exact plain_agg (by simp only [go_sem]) | exact plain_two (by first | exact plain_agg (by simp only [go_sem]) | rfl) (by first | exact plain_agg (by simp only [go_sem]) | rfl)) | refine ret_full (by first | exact .inr rfl | exact .inl rfl) (by simp) ?_); simp (maxSteps := 1000000) (disch := first | omega | rfl | decide | (simp only [List.length_cons, List.length_nil, List.length_append, Bs_length, Is_length, Vs_length, Bl_length, Il_length] <;> omega)) only [go_sem, Nat.reduceAdd, Int.reduceAdd, Int.reduceSub, Int.reduceMul, Bool.not_true, Bool.not_false]; try rfl)

theorem lact_I_no {m r : Int} {bx mx pl : Nat → UInt8} (hc : cipB m bx mx pl r = false) (n : Int) (h : List Blk) : AC Try.prog 17 [.agg (Ci m bx mx pl r).toArray, .int .i64 n] h (.tuple #[.int .i64 0, .int .i64 1]) h := by
  (refine AC_begin (fun _ _ => Try.call17 _ _) Try.func17 rfl Try.ntmps17 Try.results17 (fun hwf => ?_); simp only [List.length_cons, List.length_nil, Nat.reduceAdd, Nat.reduceSub, List.replicate, List.cons_append, List.nil_append])
  (repeat (first | ((first | (refine And.intro ?_ ?_; focus (first | exact plain_agg (by simp only [go_sem]) | exact plain_two (by first | exact plain_agg (by simp only [go_sem]) | rfl) rfl | rfl)) | ((first | with_reducible apply callB_i | with_reducible apply callK_intro | with_reducible apply callQ_i); (focus (first | assumption | (with_reducible apply cipI_ac <;> (first | assumption | rfl | (simp (disch := omega) only [go_sem]; first | done | rfl) | omega | decide | (simp; done))))); (try (focus (refine WP.mk ?_ ?_; (focus ((repeat (first | exact trivial | (refine And.intro ?_ ?_; (focus first | exact plainV_wf rfl | (refine plainV_wf (plain_agg ?_); simp only [go_sem]; done) | (simp only [wfV, wf1, wfC, List.length_append, List.length_cons, List.length_nil]; omega))))))); (focus (first | rfl | (refine plain_agg ?_; simp only [go_sem]; done) | (refine plain_two ?_ ?_ <;> first | rfl | (refine plain_agg ?_; simp only [go_sem]; done)))))))) | refine WA_seq (WA_region ?_) | refine WA_region ?_ | refine WA_exit ?_); try simp (maxSteps := 1000000) (disch := first | omega | rfl | decide | (simp only [List.length_cons, List.length_nil, List.length_append, Bs_length, Is_length, Vs_length, Bl_length, Il_length] <;> omega)) only [go_sem, Nat.reduceAdd, Int.reduceAdd, Int.reduceSub, Int.reduceMul, Bool.not_true, Bool.not_false, hc, Bool.not_false]) | refine WA_seq ?_ | refine WA_block ?_ | (refine WA_skip ?_; try simp only [go_sem]) | (refine WA_ret ?_; try simp only [go_sem]) | refine WA_ct rfl ?_ | refine WA_cf rfl ?_))
  ((first | refine ret_none (by first | exact .inr rfl | exact .inl rfl) ?_ | refine ret_same (by first | exact .inr rfl | exact .inl rfl) ?_ (by first | rfl | exact plain_agg (by simp only [go_sem]) | exact plain_two (by first | exact plain_agg (by simp only [go_sem]) | rfl) (by first | exact plain_agg (by simp only [go_sem]) | rfl)) | refine ret_full (by first | exact .inr rfl | exact .inl rfl) (by simp) ?_); simp (maxSteps := 1000000) (disch := first | omega | rfl | decide | (simp only [List.length_cons, List.length_nil, List.length_append, Bs_length, Is_length, Vs_length, Bl_length, Il_length] <;> omega)) only [go_sem, Nat.reduceAdd, Int.reduceAdd, Int.reduceSub, Int.reduceMul, Bool.not_true, Bool.not_false]; try rfl)
theorem lact_I_out {m r : Int} {bx mx pl : Nat → UInt8} (hc : cipB m bx mx pl r = true) {n : Int} (hr : inR n 1 6 = false) (h : List Blk) : AC Try.prog 17 [.agg (Ci m bx mx pl r).toArray, .int .i64 n] h (.tuple #[.int .i64 0, .int .i64 2]) h := by
  have hi := inI_ac n 1 6
  rw [hr] at hi
  (refine AC_begin (fun _ _ => Try.call17 _ _) Try.func17 rfl Try.ntmps17 Try.results17 (fun hwf => ?_); simp only [List.length_cons, List.length_nil, Nat.reduceAdd, Nat.reduceSub, List.replicate, List.cons_append, List.nil_append])
  (repeat (first | ((first | (refine And.intro ?_ ?_; focus (first | exact plain_agg (by simp only [go_sem]) | exact plain_two (by first | exact plain_agg (by simp only [go_sem]) | rfl) rfl | rfl)) | ((first | with_reducible apply callB_i | with_reducible apply callK_intro | with_reducible apply callQ_i); (focus (first | assumption | ((first | with_reducible apply cipI_ac | with_reducible apply hi) <;> (first | assumption | rfl | (simp (disch := omega) only [go_sem]; first | done | rfl) | omega | decide | (simp; done))))); (try (focus (refine WP.mk ?_ ?_; (focus ((repeat (first | exact trivial | (refine And.intro ?_ ?_; (focus first | exact plainV_wf rfl | (refine plainV_wf (plain_agg ?_); simp only [go_sem]; done) | (simp only [wfV, wf1, wfC, List.length_append, List.length_cons, List.length_nil]; omega))))))); (focus (first | rfl | (refine plain_agg ?_; simp only [go_sem]; done) | (refine plain_two ?_ ?_ <;> first | rfl | (refine plain_agg ?_; simp only [go_sem]; done)))))))) | refine WA_seq (WA_region ?_) | refine WA_region ?_ | refine WA_exit ?_); try simp (maxSteps := 1000000) (disch := first | omega | rfl | decide | (simp only [List.length_cons, List.length_nil, List.length_append, Bs_length, Is_length, Vs_length, Bl_length, Il_length] <;> omega)) only [go_sem, Nat.reduceAdd, Int.reduceAdd, Int.reduceSub, Int.reduceMul, Bool.not_true, Bool.not_false, hc, Bool.not_true, Bool.not_false]) | refine WA_seq ?_ | refine WA_block ?_ | (refine WA_skip ?_; try simp only [go_sem]) | (refine WA_ret ?_; try simp only [go_sem]) | refine WA_ct rfl ?_ | refine WA_cf rfl ?_))
  ((first | refine ret_none (by first | exact .inr rfl | exact .inl rfl) ?_ | refine ret_same (by first | exact .inr rfl | exact .inl rfl) ?_ (by first | rfl | exact plain_agg (by simp only [go_sem]) | exact plain_two (by first | exact plain_agg (by simp only [go_sem]) | rfl) (by first | exact plain_agg (by simp only [go_sem]) | rfl)) | refine ret_full (by first | exact .inr rfl | exact .inl rfl) (by simp) ?_); simp (maxSteps := 1000000) (disch := first | omega | rfl | decide | (simp only [List.length_cons, List.length_nil, List.length_append, Bs_length, Is_length, Vs_length, Bl_length, Il_length] <;> omega)) only [go_sem, Nat.reduceAdd, Int.reduceAdd, Int.reduceSub, Int.reduceMul, Bool.not_true, Bool.not_false]; try rfl)

end Go.Proofs.Ytkgiocoiojdgfaa
/- Least activity: the reference. -/
namespace Go.Proofs.Ytkgiocoiojdgfaa
set_option linter.unusedSimpArgs false
set_option linter.unusedVariables false
set_option maxRecDepth 20000
set_option maxHeartbeats 1000000
open Go.Abs

/-- Ones at the first k sets. -/
def onF (k : Nat) : Nat → Int := fun i => if i < k then ((popP i 16 : Nat) : Int) else 0
theorem onF_zero : onF 0 = fun _ => 0 := funext fun i => if_neg (Nat.not_lt_zero i)
theorem onF_next (k : Nat) : upd (onF k) k ((popP k 16 : Nat) : Int) = onF (k + 1) := by
  funext i
  show (if i = k then ((popP k 16 : Nat) : Int) else onF k i) = onF (k + 1) i
  unfold onF
  by_cases h : i = k
  · subst h; rw [if_pos rfl, if_pos (by omega)]
  · rw [if_neg h]
    by_cases h2 : i < k
    · rw [if_pos h2, if_pos (by omega)]
    · rw [if_neg h2, if_neg (by omega)]
theorem onF_all : Is 65536 (upd (onF 65536) 0 1000) = Is 65536 st0 := Is_congr fun i hi => by
  show (if i = 0 then (1000 : Int) else onF 65536 i) = (if i = 0 then (1000 : Int) else ((popP i 16 : Nat) : Int))
  unfold onF; rw [if_pos hi]
theorem lsF_zero (f : Nat → Int) : lsF f 0 = 1000 := rfl
theorem lsF_next (f : Nat → Int) (k : Nat) : (if f k < lsF f k then f k else lsF f k) = lsF f (k + 1) := rfl
theorem itS_zero (pl : Nat → UInt8) (F : Nat → Nat → Nat) (len : Nat → Nat) : itS pl F len 0 = st0 := rfl
theorem itS_next (pl : Nat → UInt8) (F : Nat → Nat → Nat) (len : Nat → Nat) (r : Nat) : rdS pl F len (itS pl F len r) = itS pl F len (r + 1) := rfl
theorem look_at {h X : List Blk} (k : Nat) : (h ++ X)[h.length + k]? = X[k]? := by rw [List.getElem?_append_right (by omega), Nat.add_sub_cancel_left]
theorem lay_1 {h L : List Blk} {C Z : Blk} {f : Nat → Int} {len : Nat → Nat} {F : Nat → Nat → Nat} (hZ : Z = ⟨Is 65536 f, true⟩) (hR : ∀ j, j < 16 → L[j]? = some ⟨Is (len j) fun i => ((F j i : Nat) : Int), true⟩)
    (hS : L[17]? = some ⟨Vs 16 fun j => sl (h.length + 1 + j) 0 (len j) 1, true⟩) : Lay h (h ++ C :: (L ++ [Z])) C (h.length + (L.length + 1)) f (h.length + 18) (fun j => h.length + 1 + j) len F where
  ci := by have := look_at (h := h) (X := C :: (L ++ [Z])) 0; rw [Nat.add_zero] at this; rw [this]; rfl
  co := by rw [look_at, List.getElem?_cons_succ, List.getElem?_append_right (Nat.le_refl _), Nat.sub_self, hZ]; rfl
  sp := by rw [look_at, List.getElem?_cons_succ]; exact look_old hS _
  row := fun j hj => by rw [Nat.add_assoc, look_at, Nat.add_comm 1 j, List.getElem?_cons_succ]; exact look_old (hR j hj) _
  app := ⟨_, rfl⟩
  nc := by omega
  np := by have := blt hS; omega
  nr := fun j hj => by have := blt (hR j hj); omega
theorem lay_2 {h L : List Blk} {C Z : Blk} {f : Nat → Int} {len : Nat → Nat} {F : Nat → Nat → Nat} (hZ : Z = ⟨Is 65536 f, true⟩) (hR : ∀ j, j < 16 → L[j]? = some ⟨Is (len j) fun i => ((F j i : Nat) : Int), true⟩)
    (hS : L[17]? = some ⟨Vs 16 fun j => sl (h.length + 2 + j) 0 (len j) 1, true⟩) : Lay h (h ++ C :: Z :: L) C (h.length + 1) f (h.length + 19) (fun j => h.length + 2 + j) len F where
  ci := by have := look_at (h := h) (X := C :: Z :: L) 0; rw [Nat.add_zero] at this; rw [this]; rfl
  co := by rw [look_at, hZ]; rfl
  sp := by rw [look_at, List.getElem?_cons_succ, List.getElem?_cons_succ]; exact hS
  row := fun j hj => by rw [Nat.add_assoc, look_at, Nat.add_comm 2 j, List.getElem?_cons_succ, List.getElem?_cons_succ]; exact hR j hj
  app := ⟨_, rfl⟩
  nc := by omega
  np := by omega
  nr := fun j hj => by omega
attribute [local irreducible] Is mvM mvC cols inn colN rpF adF tgN Vs lsF itS rdS onF st0 paN paLen paF
attribute [local irreducible] contK
theorem lact_S_op {m n : Nat} {r : Int} {bx mx pl : Nat → UInt8} (h0 : 256 ≤ m) (h1 : m < 512) (hf : fieldB m = true) (hc : cipB m bx mx pl r = true) (hp : plOk pl = true) (hr : inR n 1 6 = true) (hn0 : 1 ≤ n) (hn : n ≤ 6) (h : List Blk) :
    AC Try.prog 16 [.agg (Ci m bx mx pl r).toArray, .int .i64 n] h (.tuple #[.int .i64 (lsF (itS pl (paN m mx) (paLen m mx) (n - 1)) 65536), .int .i64 0]) h := by
  have hi := inS_ac n 1 6
  rw [hr] at hi
  have tn : Int.toNat 65536 = 65536 := rfl
  obtain ⟨L1, hN1, hR1, hS1, hA1⟩ := patS_gen h0 h1 hf bx mx pl r (h.length + 1)
  obtain ⟨L2, hN2, hR2, hS2, hA2⟩ := patS_gen h0 h1 hf bx mx pl r (h.length + 2)
  have hNL : NL L1 := ⟨hN1⟩
  have hB1 := hA1 (ro (h ++ [⟨Ci m bx mx pl r, true⟩])) (by simp [ro_length])
  have hB2 := hA2 (h ++ [⟨Ci m bx mx pl r, true⟩, ⟨Is 65536 fun _ => 0, true⟩]) (by simp)
  (refine AC_begin (fun _ _ => Try.call16 _ _) Try.func16 rfl Try.ntmps16 Try.results16 (fun hwf => ?_); simp only [List.length_cons, List.length_nil, Nat.reduceAdd, Nat.reduceSub, List.replicate, List.cons_append, List.nil_append])
  (repeat (first | ((first | (refine And.intro ?_ ?_; focus (first | exact plain_agg (by simp only [go_sem]) | exact plain_two (by first | exact plain_agg (by simp only [go_sem]) | rfl) rfl | rfl)) | ((first | with_reducible apply callB_i | with_reducible apply callK_intro | with_reducible apply callQ_i); (focus (first | assumption | ((first | with_reducible apply cipS_ac | with_reducible apply hi) <;> (first | assumption | rfl | (simp (disch := omega) only [go_sem]; first | done | rfl) | omega | decide | (simp; done))))); (try (focus (refine WP.mk ?_ ?_; (focus ((repeat (first | exact trivial | (refine And.intro ?_ ?_; (focus first | exact plainV_wf rfl | (refine plainV_wf (plain_agg ?_); simp only [go_sem]; done) | (simp only [wfV, wf1, wfC, List.length_append, List.length_cons, List.length_nil]; omega))))))); (focus (first | rfl | (refine plain_agg ?_; simp only [go_sem]; done) | (refine plain_two ?_ ?_ <;> first | rfl | (refine plain_agg ?_; simp only [go_sem]; done)))))))) | refine WA_seq (WA_region ?_) | refine WA_region ?_ | refine WA_exit ?_); try simp (maxSteps := 1000000) (disch := first | omega | rfl | decide | (simp only [List.length_cons, List.length_nil, List.length_append, Bs_length, Is_length, Vs_length, Bl_length, Il_length] <;> omega)) only [go_sem, Nat.reduceAdd, Int.reduceAdd, Int.reduceSub, Int.reduceMul, Bool.not_true, Bool.not_false, hc, Bool.not_true]) | refine WA_seq ?_ | refine WA_block ?_ | (refine WA_skip ?_; try simp only [go_sem]) | (refine WA_ret ?_; try simp only [go_sem]) | refine WA_ct rfl ?_ | refine WA_cf rfl ?_))
  refine WA_midG (fun s' => ∃ (H : List Blk) (cb pb : Nat) (g : Nat → Nat), Lay h H ⟨Ci m bx mx pl r, true⟩ cb (fun _ => 0) pb g (paLen m mx) (paN m mx) ∧ s' = ⟨[J, .int .i64 n, pt h.length 0, J, .int .i64 0, .int .i64 0, sl cb 0 65536 1, sl pb 0 16 1, J, J, J, J, J, J, J, J, J, J, J, J, J, J, J, J, J, J, J, J, J, J, J, J, J, J, J, J, J, J, J, J, J, J, J, J, J, J, J, J, J, J, J, J, J, J], H⟩) ?_ ?_
  · (repeat (first | ((first | (refine And.intro ?_ ?_; focus (first | exact plain_agg (by simp only [go_sem]) | exact plain_two (by first | exact plain_agg (by simp only [go_sem]) | rfl) rfl | rfl)) | ((first | with_reducible apply callB_i | with_reducible apply callK_intro | with_reducible apply callQ_i); (focus (first | assumption | ((first | with_reducible apply hB1 | with_reducible apply hB2) <;> (first | assumption | rfl | (simp (disch := omega) only [go_sem]; first | done | rfl) | omega | decide | (simp; done))))); (try (focus (refine WP.mk ?_ ?_; (focus ((repeat (first | exact trivial | (refine And.intro ?_ ?_; (focus first | exact plainV_wf rfl | (refine plainV_wf (plain_agg ?_); simp only [go_sem]; done) | (simp only [wfV, wf1, wfC, List.length_append, List.length_cons, List.length_nil]; omega))))))); (focus (first | rfl | (refine plain_agg ?_; simp only [go_sem]; done) | (refine plain_two ?_ ?_ <;> first | rfl | (refine plain_agg ?_; simp only [go_sem]; done)))))))) | refine WA_seq (WA_region ?_) | refine WA_region ?_ | refine WA_exit ?_); try simp (maxSteps := 1000000) (disch := first | omega | rfl | decide | (simp only [List.length_cons, List.length_nil, List.length_append, Bs_length, Is_length, Vs_length, Bl_length, Il_length] <;> omega)) only [go_sem, Nat.reduceAdd, Int.reduceAdd, Int.reduceSub, Int.reduceMul, Bool.not_true, Bool.not_false, tn]) | (refine (WA_rb (id := 5) [2] (SubM.refl _) mixedOk ?_); simp only [List.size_toArray, List.length_cons, List.length_nil]; (repeat' (first | ((first | (refine And.intro ?_ ?_; focus (first | exact plain_agg (by simp only [go_sem]) | exact plain_two (by first | exact plain_agg (by simp only [go_sem]) | rfl) rfl | rfl)) | ((first | with_reducible apply callB_i | with_reducible apply callK_intro | with_reducible apply callQ_i | with_reducible apply callC_i); (focus (first | assumption | ((first | with_reducible apply hB1 | with_reducible apply hB2) <;> (first | assumption | rfl | (simp (disch := omega) only [go_sem]; first | done | rfl) | omega | decide | (simp; done))))); (try (focus (first | assumption | exact NL.mk rfl))); (try (focus (refine WP.mk ?_ ?_; (focus ((repeat (first | exact trivial | (refine And.intro ?_ ?_; (focus first | exact plainV_wf rfl | (refine plainV_wf (plain_agg ?_); simp only [go_sem]; done) | (simp only [wfV, wf1, wfC, List.length_append, List.length_cons, List.length_nil]; omega))))))); (focus (first | rfl | (refine plain_agg ?_; simp only [go_sem]; done) | (refine plain_two ?_ ?_ <;> first | rfl | (refine plain_agg ?_; simp only [go_sem]; done)))))))) | refine RB_take true [1] 4 (by rfl) (by kernel_rfl) (by decide) (by decide +kernel) ?_ | refine RB_twoC 2 0 _ (by rfl) (by decide +kernel) (by first | (simp only [go_sem]; done) | fail) ?_ ?_ | refine RB_keep 0 _ (by rfl) (by decide +kernel) (by first | (simp (disch := first | omega | decide) only [go_sem, List.getElem?_nil]; done) | fail) ?_ | refine RB_take false [3, 4] 0 (by rfl) (by kernel_rfl) (by decide) (by decide +kernel) ?_ | refine RB_done (by decide +kernel) ?_ | refine RB_exec 2 _ (by rfl) (by decide +kernel) (by decide +kernel) ?_) <;> try simp (maxSteps := 1000000) (disch := first | omega | rfl | decide | (simp only [List.length_cons, List.length_nil, List.length_append, Bs_length, Is_length, Vs_length, Bl_length, Il_length] <;> omega)) only [go_sem, Nat.reduceAdd, Int.reduceAdd, Int.reduceSub, Int.reduceMul, Bool.not_true, Bool.not_false, tn])))) | refine WA_seq ?_ | refine WA_block ?_ | (refine WA_skip ?_; try simp only [go_sem]) | (refine WA_ret ?_; try simp only [go_sem]) | refine WA_ct rfl ?_ | refine WA_cf rfl ?_))
    · refine ⟨_, ⟨_, _, _, _, lay_1 rfl hR1 hS1, rfl⟩, ?_⟩
      (refine Drop_slots (by first | exact Nat.le_refl _ | simp) ?_; focus ((try simp only [JL_same, JL_J, JL_nil, Int.reduceAdd, Nat.sub_sub, Int.natCast_add, Int.natCast_one, Int.natCast_zero, Int.cast_ofNat_Int, Nat.add_zero, Bool.false_eq_true, if_false, if_true]); (try exact JL_refl _)))
    · refine ⟨_, ⟨_, _, _, _, lay_2 rfl hR2 hS2, rfl⟩, ?_⟩
      (refine Drop_slots (by first | exact Nat.le_refl _ | simp) ?_; focus ((try simp only [JL_same, JL_J, JL_nil, Int.reduceAdd, Nat.sub_sub, Int.natCast_add, Int.natCast_one, Int.natCast_zero, Int.cast_ofNat_Int, Nat.add_zero, Bool.false_eq_true, if_false, if_true]); (try exact JL_refl _)))
  · rintro _ ⟨H, cb, pb, g, x, rfl⟩
    have hlen := x.le
    (repeat (first | ((first | (refine And.intro ?_ ?_; focus (first | exact plain_agg (by simp only [go_sem]) | exact plain_two (by first | exact plain_agg (by simp only [go_sem]) | rfl) rfl | rfl)) | refine WA_seq (WA_region ?_) | refine WA_region ?_ | refine WA_exit ?_); try simp (maxSteps := 1000000) (disch := first | omega | rfl | decide | (simp only [List.length_cons, List.length_nil, List.length_append, Bs_length, Is_length, Vs_length, Bl_length, Il_length] <;> omega)) only [go_sem, Nat.reduceAdd, Int.reduceAdd, Int.reduceSub, Int.reduceMul, Bool.not_true, Bool.not_false]) | refine WA_seq ?_ | refine WA_block ?_ | (refine WA_skip ?_; try simp only [go_sem]) | (refine WA_ret ?_; try simp only [go_sem]) | refine WA_ct rfl ?_ | refine WA_cf rfl ?_))
    refine WA_forX (fun k s' => ∃ (H : List Blk) (cb pb : Nat) (g : Nat → Nat), Lay h H ⟨Ci m bx mx pl r, true⟩ cb (onF k) pb g (paLen m mx) (paN m mx) ∧ s' = ⟨[J, .int .i64 n, pt h.length 0, J, .int .i64 0, .int .i64 0, sl cb 0 65536 1, sl pb 0 16 1, .int .i64 k, J, J, J, J, J, J, J, J, J, J, J, J, J, J, J, J, J, J, J, J, J, J, J, J, J, J, J, J, J, J, J, J, J, J, J, J, J, J, J, J, J, J, J, J, J], H⟩) 65536 ?_ ?_ ?_
    · refine ⟨_, ⟨H, cb, pb, g, by rw [onF_zero]; exact x, rfl⟩, ?_⟩
      (refine Drop_slots (by first | assumption | exact Nat.le_refl _) ?_; focus ((try simp only [JL_same, JL_J, JL_nil, Int.reduceAdd, Nat.sub_sub, Int.natCast_add, Int.natCast_one, Int.natCast_zero, Int.cast_ofNat_Int, Nat.add_zero, Bool.false_eq_true, if_false, if_true]); (try exact JL_refl _)))
    · rintro k hk _ ⟨H, cb, pb, g, x, rfl⟩
      have hlen := x.le
      have hco := x.co
      (repeat (first | ((first | (refine And.intro ?_ ?_; focus (first | exact plain_agg (by simp only [go_sem]) | exact plain_two (by first | exact plain_agg (by simp only [go_sem]) | rfl) rfl | rfl)) | ((first | with_reducible apply callB_i | with_reducible apply callK_intro | with_reducible apply callQ_i); (focus (first | assumption | (with_reducible apply bitsS_ac hk <;> (first | assumption | rfl | (simp (disch := omega) only [go_sem]; first | done | rfl) | omega | decide | (simp; done))))); (try (focus (refine WP.mk ?_ ?_; (focus ((repeat (first | exact trivial | (refine And.intro ?_ ?_; (focus first | exact plainV_wf rfl | (refine plainV_wf (plain_agg ?_); simp only [go_sem]; done) | (simp only [wfV, wf1, wfC, List.length_append, List.length_cons, List.length_nil]; omega))))))); (focus (first | rfl | (refine plain_agg ?_; simp only [go_sem]; done) | (refine plain_two ?_ ?_ <;> first | rfl | (refine plain_agg ?_; simp only [go_sem]; done)))))))) | refine WA_seq (WA_region ?_) | refine WA_region ?_ | refine WA_exit ?_); try simp (maxSteps := 1000000) (disch := first | omega | rfl | decide | (simp only [List.length_cons, List.length_nil, List.length_append, Bs_length, Is_length, Vs_length, Bl_length, Il_length] <;> omega)) only [go_sem, Nat.reduceAdd, Int.reduceAdd, Int.reduceSub, Int.reduceMul, Bool.not_true, Bool.not_false, hco, onF_next]) | refine WA_seq ?_ | refine WA_block ?_ | (refine WA_skip ?_; try simp only [go_sem]) | (refine WA_ret ?_; try simp only [go_sem]) | refine WA_ct rfl ?_ | refine WA_cf rfl ?_))
      have hle2 := (x.set (onF (k + 1))).le
      refine ⟨_, ⟨_, cb, pb, g, x.set (onF (k + 1)), rfl⟩, ?_⟩
      (refine Drop_slots (by first | assumption | exact Nat.le_refl _) ?_; focus ((try simp only [JL_same, JL_J, JL_nil, Int.reduceAdd, Nat.sub_sub, Int.natCast_add, Int.natCast_one, Int.natCast_zero, Int.cast_ofNat_Int, Nat.add_zero, Bool.false_eq_true, if_false, if_true]); (try exact JL_refl _)))
    · rintro _ ⟨H, cb, pb, g, x, rfl⟩
      have hlen := x.le
      have hco := x.co
      (repeat (first | ((first | (refine And.intro ?_ ?_; focus (first | exact plain_agg (by simp only [go_sem]) | exact plain_two (by first | exact plain_agg (by simp only [go_sem]) | rfl) rfl | rfl)) | refine WA_seq (WA_region ?_) | refine WA_region ?_ | refine WA_exit ?_); try simp (maxSteps := 1000000) (disch := first | omega | rfl | decide | (simp only [List.length_cons, List.length_nil, List.length_append, Bs_length, Is_length, Vs_length, Bl_length, Il_length] <;> omega)) only [go_sem, Nat.reduceAdd, Int.reduceAdd, Int.reduceSub, Int.reduceMul, Bool.not_true, Bool.not_false, hco]) | refine WA_seq ?_ | refine WA_block ?_ | (refine WA_skip ?_; try simp only [go_sem]) | (refine WA_ret ?_; try simp only [go_sem]) | refine WA_ct rfl ?_ | refine WA_cf rfl ?_))
      have x2 := x.set st0
      rw [onF_all]
      generalize H.set cb ⟨Is 65536 st0, true⟩ = H2 at *
      have hlen := x2.le
      refine WA_forX (fun k s' => ∃ (H : List Blk) (cb pb : Nat) (g : Nat → Nat), Lay h H ⟨Ci m bx mx pl r, true⟩ cb (itS pl (paN m mx) (paLen m mx) k) pb g (paLen m mx) (paN m mx) ∧ s' = ⟨[J, .int .i64 n, pt h.length 0, J, .int .i64 0, .int .i64 0, sl cb 0 65536 1, sl pb 0 16 1, J, .int .i64 ((k + 2 : Nat) : Int), J, J, J, J, J, J, J, J, J, J, J, J, J, J, J, J, J, J, J, J, J, J, J, J, J, J, J, J, J, J, J, J, J, J, J, J, J, J, J, J, J, J, J, J], H⟩) (n - 1) ?_ ?_ ?_
      · refine ⟨_, ⟨H2, cb, pb, g, by rw [itS_zero]; exact x2, rfl⟩, ?_⟩
        (refine Drop_slots (by first | assumption | exact Nat.le_refl _) ?_; focus ((try simp only [JL_same, JL_J, JL_nil, Int.reduceAdd, Nat.sub_sub, Int.natCast_add, Int.natCast_one, Int.natCast_zero, Int.cast_ofNat_Int, Nat.add_zero, Bool.false_eq_true, if_false, if_true]); (try exact JL_refl _)))
      · rintro k hk _ ⟨H, cb, pb, g, x, rfl⟩
        have hci := x.ci
        have hrd := rdS_ac (m := (m : Int)) (r := r) (bx := bx) (mx := mx) (pl := pl) x.sp x.row (paN_lt m mx) (paLen_le16 m mx) x.co (itS_bd hp _ _ (show k ≤ 20 by omega))
        rw [itS_next] at hrd
        have x3 := x.ext (L := [⟨Ci m bx mx pl r, true⟩, ⟨Is 65536 (itS pl (paN m mx) (paLen m mx) (k + 1)), true⟩]) (k := 1) rfl
        have hlen := x3.le
        (repeat (first | ((first | (refine And.intro ?_ ?_; focus (first | exact plain_agg (by simp only [go_sem]) | exact plain_two (by first | exact plain_agg (by simp only [go_sem]) | rfl) rfl | rfl)) | ((first | with_reducible apply callB_i | with_reducible apply callK_intro | with_reducible apply callQ_i); (focus (first | assumption | (with_reducible apply hrd <;> (first | assumption | rfl | (simp (disch := omega) only [go_sem]; first | done | rfl) | omega | decide | (simp; done))))); (try (focus (refine WP.mk ?_ ?_; (focus ((repeat (first | exact trivial | (refine And.intro ?_ ?_; (focus first | exact plainV_wf rfl | (refine plainV_wf (plain_agg ?_); simp only [go_sem]; done) | (simp only [wfV, wf1, wfC, List.length_append, List.length_cons, List.length_nil]; omega))))))); (focus (first | rfl | (refine plain_agg ?_; simp only [go_sem]; done) | (refine plain_two ?_ ?_ <;> first | rfl | (refine plain_agg ?_; simp only [go_sem]; done)))))))) | refine WA_seq (WA_region ?_) | refine WA_region ?_ | refine WA_exit ?_); try simp (maxSteps := 1000000) (disch := first | omega | rfl | decide | (simp only [List.length_cons, List.length_nil, List.length_append, Bs_length, Is_length, Vs_length, Bl_length, Il_length] <;> omega)) only [go_sem, Nat.reduceAdd, Int.reduceAdd, Int.reduceSub, Int.reduceMul, Bool.not_true, Bool.not_false, hci]) | refine WA_seq ?_ | refine WA_block ?_ | (refine WA_skip ?_; try simp only [go_sem]) | (refine WA_ret ?_; try simp only [go_sem]) | refine WA_ct rfl ?_ | refine WA_cf rfl ?_))
        refine ⟨_, ⟨_, _, pb, g, x3, by rw [show k + 1 + 2 = k + 2 + 1 by omega]⟩, ?_⟩
        (refine Drop_slots (by first | assumption | exact Nat.le_refl _) ?_; focus ((try simp only [JL_same, JL_J, JL_nil, Int.reduceAdd, Nat.sub_sub, Int.natCast_add, Int.natCast_one, Int.natCast_zero, Int.cast_ofNat_Int, Nat.add_zero, Bool.false_eq_true, if_false, if_true]); (try exact JL_refl _)))
      · rintro _ ⟨H, cb, pb, g, x, rfl⟩
        have hlen := x.le
        have hco := x.co
        generalize itS pl (paN m mx) (paLen m mx) (n - 1) = f at *
        (repeat (first | ((first | (refine And.intro ?_ ?_; focus (first | exact plain_agg (by simp only [go_sem]) | exact plain_two (by first | exact plain_agg (by simp only [go_sem]) | rfl) rfl | rfl)) | refine WA_seq (WA_region ?_) | refine WA_region ?_ | refine WA_exit ?_); try simp (maxSteps := 1000000) (disch := first | omega | rfl | decide | (simp only [List.length_cons, List.length_nil, List.length_append, Bs_length, Is_length, Vs_length, Bl_length, Il_length] <;> omega)) only [go_sem, Nat.reduceAdd, Int.reduceAdd, Int.reduceSub, Int.reduceMul, Bool.not_true, Bool.not_false]) | refine WA_seq ?_ | refine WA_block ?_ | (refine WA_skip ?_; try simp only [go_sem]) | (refine WA_ret ?_; try simp only [go_sem]) | refine WA_ct rfl ?_ | refine WA_cf rfl ?_))
        refine WA_forH (fun k => [(10, .int .i64 (lsF f k)), (11, .int .i64 k), (43, J), (44, J), (45, J), (46, J), (47, J), (48, J), (49, J), (50, J), (51, J), (52, J)]) (fun k => H) (65536) ?_ ?_ ?_ <;> (try simp only [patT_cons, patT_nil, patL_cons, patL_nil, list_set_zero, list_set_succ, blk_set_zero, blk_set_succ])
        · rw [lsF_zero]
          (refine Drop_slots (by first | assumption | exact Nat.le_refl _) ?_; focus ((try simp only [JL_same, JL_J, JL_nil, Int.reduceAdd, Nat.sub_sub, Int.natCast_add, Int.natCast_one, Int.natCast_zero, Int.cast_ofNat_Int, Nat.add_zero, Bool.false_eq_true, if_false, if_true]); (try exact JL_refl _)))
        · intro k hk
          (repeat (first | ((first | (refine And.intro ?_ ?_; focus (first | exact plain_agg (by simp only [go_sem]) | exact plain_two (by first | exact plain_agg (by simp only [go_sem]) | rfl) rfl | rfl)) | refine WA_seq (WA_region ?_) | refine WA_region ?_ | refine WA_exit ?_); try simp (maxSteps := 1000000) (disch := first | omega | rfl | decide | (simp only [List.length_cons, List.length_nil, List.length_append, Bs_length, Is_length, Vs_length, Bl_length, Il_length] <;> omega)) only [go_sem, Nat.reduceAdd, Int.reduceAdd, Int.reduceSub, Int.reduceMul, Bool.not_true, Bool.not_false, hco, lsF_next]) | refine WA_seq ?_ | refine WA_block ?_ | (refine WA_skip ?_; try simp only [go_sem]) | (refine WA_ret ?_; try simp only [go_sem]) | refine WA_ct rfl ?_ | refine WA_cf rfl ?_))
          (refine Drop_slots (by first | assumption | exact Nat.le_refl _) ?_; focus ((try simp only [JL_same, JL_J, JL_nil, Int.reduceAdd, Nat.sub_sub, Int.natCast_add, Int.natCast_one, Int.natCast_zero, Int.cast_ofNat_Int, Nat.add_zero, Bool.false_eq_true, if_false, if_true]); (try exact JL_refl _)))
        · obtain ⟨A, hA⟩ := x.app
          rw [hA]
          (repeat (first | ((first | (refine And.intro ?_ ?_; focus (first | exact plain_agg (by simp only [go_sem]) | exact plain_two (by first | exact plain_agg (by simp only [go_sem]) | rfl) rfl | rfl)) | refine WA_seq (WA_region ?_) | refine WA_region ?_ | refine WA_exit ?_); try simp (maxSteps := 1000000) (disch := first | omega | rfl | decide | (simp only [List.length_cons, List.length_nil, List.length_append, Bs_length, Is_length, Vs_length, Bl_length, Il_length] <;> omega)) only [go_sem, Nat.reduceAdd, Int.reduceAdd, Int.reduceSub, Int.reduceMul, Bool.not_true, Bool.not_false]) | refine WA_seq ?_ | refine WA_block ?_ | (refine WA_skip ?_; try simp only [go_sem]) | (refine WA_ret ?_; try simp only [go_sem]) | refine WA_ct rfl ?_ | refine WA_cf rfl ?_))
          ((first | refine ret_none (by first | exact .inr rfl | exact .inl rfl) ?_ | refine ret_same (by first | exact .inr rfl | exact .inl rfl) ?_ (by first | rfl | exact plain_agg (by simp only [go_sem]) | exact plain_two (by first | exact plain_agg (by simp only [go_sem]) | rfl) (by first | exact plain_agg (by simp only [go_sem]) | rfl)) | refine ret_full (by first | exact .inr rfl | exact .inl rfl) (by simp) ?_); simp (maxSteps := 1000000) (disch := first | omega | rfl | decide | (simp only [List.length_cons, List.length_nil, List.length_append, Bs_length, Is_length, Vs_length, Bl_length, Il_length] <;> omega)) only [go_sem, Nat.reduceAdd, Int.reduceAdd, Int.reduceSub, Int.reduceMul, Bool.not_true, Bool.not_false]; try rfl)

end Go.Proofs.Ytkgiocoiojdgfaa
/- Least activity: the program. -/
namespace Go.Proofs.Ytkgiocoiojdgfaa
set_option linter.unusedSimpArgs false
set_option linter.unusedVariables false
set_option maxRecDepth 20000
set_option maxHeartbeats 1000000
open Go.Abs

/-- Bits added at the first k sets that are reached. -/
def adI (v : Nat → Int) (k : Nat) : Nat → Int := fun i => if i < k then (if v i < 1000 then v i + ((popP i 16 : Nat) : Int) else v i) else v i
theorem adI_zero (v : Nat → Int) : adI v 0 = v := funext fun i => if_neg (Nat.not_lt_zero i)
theorem adI_at (v : Nat → Int) (k : Nat) : adI v k k = v k := if_neg (Nat.lt_irrefl k)
theorem adI_next {v : Nat → Int} {k : Nat} (h : v k < 1000) : upd (adI v k) k (v k + ((popP k 16 : Nat) : Int)) = adI v (k + 1) := by
  funext i
  show (if i = k then v k + ((popP k 16 : Nat) : Int) else adI v k i) = adI v (k + 1) i
  unfold adI
  by_cases e : i = k
  · subst e; rw [if_pos rfl, if_pos (by omega), if_pos h]
  · rw [if_neg e]
    by_cases h2 : i < k
    · rw [if_pos h2, if_pos (show i < k + 1 by omega)]
    · rw [if_neg h2, if_neg (show ¬ i < k + 1 by omega)]
theorem adI_skip {v : Nat → Int} {k : Nat} (h : ¬ v k < 1000) : adI v k = adI v (k + 1) := by
  funext i
  unfold adI
  by_cases e : i = k
  · subst e; rw [if_neg (by omega), if_pos (by omega), if_neg h]
  · by_cases h2 : i < k
    · rw [if_pos h2, if_pos (show i < k + 1 by omega)]
    · rw [if_neg h2, if_neg (show ¬ i < k + 1 by omega)]
theorem Lay.congr {h M : List Blk} {C : Blk} {cb pb : Nat} {f f' : Nat → Int} {g len : Nat → Nat} {F : Nat → Nat → Nat} (x : Lay h M C cb f pb g len F) (e : ∀ i, i < 65536 → f i = f' i) : Lay h M C cb f' pb g len F where
  ci := x.ci
  co := by rw [← Is_congr e]; exact x.co
  sp := x.sp
  row := x.row
  app := x.app
  nc := x.nc
  np := x.np
  nr := x.nr
theorem itI_next (pl : Nat → UInt8) (F : Nat → Nat → Nat) (len : Nat → Nat) (r : Nat) (i : Nat) (hi : i < 65536) : adI (colN F len (mvC pl (itI pl F len r) 1000 65536) 4) 65536 i = itI pl F len (r + 1) i := if_pos hi
theorem itI_zero (pl : Nat → UInt8) (F : Nat → Nat → Nat) (len : Nat → Nat) : itI pl F len 0 = st0 := rfl
theorem mvC_bdI {pl : Nat → UInt8} {f : Nat → Int} (hf : ∀ s, s < 65536 → 0 ≤ f s ∧ f s ≤ 1000) (t : Nat) : 0 ≤ mvC pl f 1000 65536 t := (wrR_bd (lo := 0) (hi := 1000) (fun _ => by omega) 65536 hf t).1
theorem lay_x {h X : List Blk} {C : Blk} {f : Nat → Int} {len : Nat → Nat} {F : Nat → Nat → Nat} (kc kp N : Nat) (h0 : X[0]? = some C) (hc : X[kc]? = some ⟨Is 65536 f, true⟩) (hp : X[kp]? = some ⟨Vs 16 fun j => sl (h.length + (N + j)) 0 (len j) 1, true⟩)
    (hr : ∀ j, j < 16 → X[N + j]? = some ⟨Is (len j) fun i => ((F j i : Nat) : Int), true⟩) (h1 : 0 < kc) (h2 : kp ≠ kc) (h3 : ∀ j, j < 16 → N + j ≠ kc) : Lay h (h ++ X) C (h.length + kc) f (h.length + kp) (fun j => h.length + (N + j)) len F where
  ci := by have := look_at (h := h) (X := X) 0; rw [Nat.add_zero] at this; rw [this]; exact h0
  co := by rw [look_at]; exact hc
  sp := by rw [look_at]; exact hp
  row := fun j hj => by rw [look_at]; exact hr j hj
  app := ⟨_, rfl⟩
  nc := by omega
  np := by omega
  nr := fun j hj => by have := h3 j hj; omega
theorem get_mid {L : List Blk} {X : List Blk} {x : Blk} (k : Nat) (h : X[k]? = some x) : (L ++ X)[L.length + k]? = some x := by rw [List.getElem?_append_right (by omega), Nat.add_sub_cancel_left]; exact h
attribute [local irreducible] Is mvM mvC cols inn colN rpF adF adI tgN Vs mnF itI rdI onF st0 paN paLen paF
attribute [local irreducible] contK
theorem lact_I_op {m n : Nat} {r : Int} {bx mx pl : Nat → UInt8} (h0 : 256 ≤ m) (h1 : m < 512) (hf : fieldB m = true) (hc : cipB m bx mx pl r = true) (hp : plOk pl = true) (hr : inR n 1 6 = true) (hn0 : 1 ≤ n) (hn : n ≤ 6) (h : List Blk) :
    AC Try.prog 17 [.agg (Ci m bx mx pl r).toArray, .int .i64 n] h (.tuple #[.int .i64 (mnF (itI pl (paN m mx) (paLen m mx) (n - 1)) 65535), .int .i64 0]) h := by
  have hi := inI_ac n 1 6
  rw [hr] at hi
  have tn : Int.toNat 65536 = 65536 := rfl
  obtain ⟨L1, hN1, hR1, hS1, hA1⟩ := patI_gen h0 h1 hf mx (h.length + 1)
  obtain ⟨L2, hN2, hR2, hS2, hA2⟩ := patI_gen h0 h1 hf mx (h.length + 2)
  obtain ⟨L3, hN3, hR3, hS3, hA3⟩ := patI_gen h0 h1 hf mx (h.length + 3)
  have hNL1 : NL L1 := ⟨hN1⟩
  have hNL2 : NL L2 := ⟨hN2⟩
  have hNL3 : NL L3 := ⟨hN3⟩
  have hB1 := hA1 (ro (h ++ [⟨Ci m bx mx pl r, true⟩])) (by simp [ro_length])
  have hB2 := hA2 (ro (h ++ [⟨Ci m bx mx pl r, true⟩, ⟨Is 65536 fun _ => 0, true⟩])) (by simp [ro_length])
  have hB3 := hA2 (ro (h ++ [⟨Ci m bx mx pl r, true⟩, ⟨Vs 16 fun _ => .slice none 0 0, true⟩])) (by simp [ro_length])
  have hB4 := hA3 (h ++ [⟨Ci m bx mx pl r, true⟩, ⟨Is 65536 fun _ => 0, true⟩, ⟨Vs 16 fun _ => .slice none 0 0, true⟩]) (by simp)
  have hB5 := hA3 (h ++ [⟨Ci m bx mx pl r, true⟩, ⟨Vs 16 fun _ => .slice none 0 0, true⟩, ⟨Is 65536 fun _ => 0, true⟩]) (by simp)
  (refine AC_begin (fun _ _ => Try.call17 _ _) Try.func17 rfl Try.ntmps17 Try.results17 (fun hwf => ?_); simp only [List.length_cons, List.length_nil, Nat.reduceAdd, Nat.reduceSub, List.replicate, List.cons_append, List.nil_append])
  (repeat (first | ((first | (refine And.intro ?_ ?_; focus (first | exact plain_agg (by simp only [go_sem]) | exact plain_two (by first | exact plain_agg (by simp only [go_sem]) | rfl) rfl | rfl)) | ((first | with_reducible apply callB_i | with_reducible apply callK_intro | with_reducible apply callQ_i); (focus (first | assumption | ((first | with_reducible apply cipI_ac | with_reducible apply hi) <;> (first | assumption | rfl | (simp (disch := omega) only [go_sem]; first | done | rfl) | omega | decide | (simp; done))))); (try (focus (refine WP.mk ?_ ?_; (focus ((repeat (first | exact trivial | (refine And.intro ?_ ?_; (focus first | exact plainV_wf rfl | (refine plainV_wf (plain_agg ?_); simp only [go_sem]; done) | (simp only [wfV, wf1, wfC, List.length_append, List.length_cons, List.length_nil]; omega))))))); (focus (first | rfl | (refine plain_agg ?_; simp only [go_sem]; done) | (refine plain_two ?_ ?_ <;> first | rfl | (refine plain_agg ?_; simp only [go_sem]; done)))))))) | refine WA_seq (WA_region ?_) | refine WA_region ?_ | refine WA_exit ?_); try simp (maxSteps := 1000000) (disch := first | omega | rfl | decide | (simp only [List.length_cons, List.length_nil, List.length_append, Bs_length, Is_length, Vs_length, Bl_length, Il_length] <;> omega)) only [go_sem, Nat.reduceAdd, Int.reduceAdd, Int.reduceSub, Int.reduceMul, Bool.not_true, Bool.not_false, hc, Bool.not_true]) | refine WA_seq ?_ | refine WA_block ?_ | (refine WA_skip ?_; try simp only [go_sem]) | (refine WA_ret ?_; try simp only [go_sem]) | refine WA_ct rfl ?_ | refine WA_cf rfl ?_))
  refine WA_midG (fun s' => ∃ (H : List Blk) (cb pb : Nat) (g : Nat → Nat), Lay h H ⟨Ci m bx mx pl r, true⟩ cb (fun _ => 0) pb g (paLen m mx) (paN m mx) ∧ s' = ⟨[J, .int .i64 n, pt h.length 0, J, .int .i64 0, .int .i64 0, pt pb 0, sl cb 0 65536 1, J, J, J, J, J, J, J, J, J, J, J, J, J, J, J, J, J, J, J, J, J, J, J, J, J, J, J, J, J, J, J, J, J, J, J, J, J, J, J, J, J, J, J, J, J, J, J, J, J, J, J, J, J, J, J, J, J, J, J, J, J, J, J, J, J, J, J, J, J, J, J, J, J, J, J, J, J, J, J, J, J, J, J, J, J, J, J], H⟩) ?_ ?_
  · (repeat (first | ((first | (refine And.intro ?_ ?_; focus (first | exact plain_agg (by simp only [go_sem]) | exact plain_two (by first | exact plain_agg (by simp only [go_sem]) | rfl) rfl | rfl)) | ((first | with_reducible apply callB_i | with_reducible apply callK_intro | with_reducible apply callQ_i); (focus (first | assumption | ((first | with_reducible apply hB1 | with_reducible apply hB2 | with_reducible apply hB3 | with_reducible apply hB4 | with_reducible apply hB5) <;> (first | assumption | rfl | (simp (disch := omega) only [go_sem]; first | done | rfl) | omega | decide | (simp; done))))); (try (focus (refine WP.mk ?_ ?_; (focus ((repeat (first | exact trivial | (refine And.intro ?_ ?_; (focus first | exact plainV_wf rfl | (refine plainV_wf (plain_agg ?_); simp only [go_sem]; done) | (simp only [wfV, wf1, wfC, List.length_append, List.length_cons, List.length_nil]; omega))))))); (focus (first | rfl | (refine plain_agg ?_; simp only [go_sem]; done) | (refine plain_two ?_ ?_ <;> first | rfl | (refine plain_agg ?_; simp only [go_sem]; done)))))))) | refine WA_seq (WA_region ?_) | refine WA_region ?_ | refine WA_exit ?_); try simp (maxSteps := 1000000) (disch := first | omega | rfl | decide | (simp only [List.length_cons, List.length_nil, List.length_append, Bs_length, Is_length, Vs_length, Bl_length, Il_length] <;> omega)) only [go_sem, Nat.reduceAdd, Int.reduceAdd, Int.reduceSub, Int.reduceMul, Bool.not_true, Bool.not_false, tn]) | (refine (WA_rb (id := 5) [4, 7] (SubM.refl _) mixedOk ?_); simp only [List.size_toArray, List.length_cons, List.length_nil]; (repeat' (first | ((first | (refine And.intro ?_ ?_; focus (first | exact plain_agg (by simp only [go_sem]) | exact plain_two (by first | exact plain_agg (by simp only [go_sem]) | rfl) rfl | rfl)) | ((first | with_reducible apply callB_i | with_reducible apply callK_intro | with_reducible apply callQ_i | with_reducible apply callC_i); (focus (first | assumption | ((first | with_reducible apply hB1 | with_reducible apply hB2 | with_reducible apply hB3 | with_reducible apply hB4 | with_reducible apply hB5) <;> (first | assumption | rfl | (simp (disch := omega) only [go_sem]; first | done | rfl) | omega | decide | (simp; done))))); (try (focus (first | assumption | exact NL.mk rfl))); (try (focus (refine WP.mk ?_ ?_; (focus ((repeat (first | exact trivial | (refine And.intro ?_ ?_; (focus first | exact plainV_wf rfl | (refine plainV_wf (plain_agg ?_); simp only [go_sem]; done) | (simp only [wfV, wf1, wfC, List.length_append, List.length_cons, List.length_nil]; omega))))))); (focus (first | rfl | (refine plain_agg ?_; simp only [go_sem]; done) | (refine plain_two ?_ ?_ <;> first | rfl | (refine plain_agg ?_; simp only [go_sem]; done)))))))) | refine RB_take false [0, 2] 7 (by rfl) (by kernel_rfl) (by decide) (by decide +kernel) ?_ | refine RB_take true [1, 3] 5 (by rfl) (by kernel_rfl) (by decide) (by decide +kernel) ?_ | refine RB_threeC 4 5 6 _ (by rfl) (by decide +kernel) (by first | (simp only [go_sem]; done) | fail) (by first | (simp only [go_sem]; done) | fail) ?_ ?_ ?_ | refine RB_twoK 5 6 _ (by rfl) (by decide +kernel) (by first | (simp only [go_sem]; done) | fail) (by first | (simp only [go_sem]; done) | fail) ?_ ?_ | refine RB_keep 6 _ (by rfl) (by decide +kernel) (by first | (simp (disch := first | omega | decide) only [go_sem, List.getElem?_nil]; done) | fail) ?_ | refine RB_exec 7 _ (by rfl) (by decide +kernel) (by decide +kernel) ?_ | refine RB_take false [8] 0 (by rfl) (by kernel_rfl) (by decide) (by decide +kernel) ?_ | refine RB_done (by decide +kernel) ?_ | refine RB_twoK 5 7 _ (by rfl) (by decide +kernel) (by first | (simp (disch := first | omega | decide) only [go_sem, List.getElem?_nil, List.getElem?_cons_succ]; done) | fail) (by first | (simp (disch := first | omega | decide) only [go_sem, List.getElem?_nil, List.getElem?_cons_succ]; done) | fail) ?_ ?_ | refine RB_keep 5 _ (by rfl) (by decide +kernel) (by first | (simp (disch := first | omega | decide) only [go_sem, List.getElem?_nil]; done) | fail) ?_ | refine RB_twoC 4 6 _ (by rfl) (by decide +kernel) (by first | (simp only [go_sem]; done) | fail) ?_ ?_ | refine RB_exec 4 _ (by rfl) (by decide +kernel) (by decide +kernel) ?_ | refine RB_twoC 4 5 _ (by rfl) (by decide +kernel) (by first | (simp only [go_sem]; done) | fail) ?_ ?_) <;> try simp (maxSteps := 1000000) (disch := first | omega | rfl | decide | (simp only [List.length_cons, List.length_nil, List.length_append, Bs_length, Is_length, Vs_length, Bl_length, Il_length] <;> omega)) only [go_sem, Nat.reduceAdd, Int.reduceAdd, Int.reduceSub, Int.reduceMul, Bool.not_true, Bool.not_false, tn])))) | refine WA_seq ?_ | refine WA_block ?_ | (refine WA_skip ?_; try simp only [go_sem]) | (refine WA_ret ?_; try simp only [go_sem]) | refine WA_ct rfl ?_ | refine WA_cf rfl ?_))
    · refine ⟨_, ⟨_, _, _, _, lay_x (X := ⟨Ci m bx mx pl r, true⟩ :: (L1 ++ [⟨Is 65536 fun _ => 0, true⟩, ⟨Vs 16 fun j => sl (h.length + (1 + j)) 0 (paLen m mx j) 1, true⟩])) (L1.length + 1) (L1.length + 2) 1 rfl (get_mid (L := L1) 0 rfl) (get_mid (L := L1) 1 rfl) (fun j hj => by rw [Nat.add_comm 1 j, List.getElem?_cons_succ]; exact look_old (hR1 j hj) _) (by omega) (by omega) (fun j hj => by omega), rfl⟩, ?_⟩
      (refine Drop_slots (by first | exact Nat.le_refl _ | simp) ?_; focus ((try simp only [JL_same, JL_J, JL_nil, Int.reduceAdd, Nat.sub_sub, Int.natCast_add, Int.natCast_one, Int.natCast_zero, Int.cast_ofNat_Int, Nat.add_zero, Bool.false_eq_true, if_false, if_true]); (try exact JL_refl _)))
    · refine ⟨_, ⟨_, _, _, _, lay_x (X := ⟨Ci m bx mx pl r, true⟩ :: (L1 ++ [⟨Vs 16 fun j => sl (h.length + (1 + j)) 0 (paLen m mx j) 1, true⟩, ⟨Is 65536 fun _ => 0, true⟩])) (L1.length + 2) (L1.length + 1) 1 rfl (get_mid (L := L1) 1 rfl) (get_mid (L := L1) 0 rfl) (fun j hj => by rw [Nat.add_comm 1 j, List.getElem?_cons_succ]; exact look_old (hR1 j hj) _) (by omega) (by omega) (fun j hj => by omega), rfl⟩, ?_⟩
      (refine Drop_slots (by first | exact Nat.le_refl _ | simp) ?_; focus ((try simp only [JL_same, JL_J, JL_nil, Int.reduceAdd, Nat.sub_sub, Int.natCast_add, Int.natCast_one, Int.natCast_zero, Int.cast_ofNat_Int, Nat.add_zero, Bool.false_eq_true, if_false, if_true]); (try exact JL_refl _)))
    · refine ⟨_, ⟨_, _, _, _, lay_x (X := ⟨Ci m bx mx pl r, true⟩ :: (L1 ++ [⟨Vs 16 fun j => sl (h.length + (1 + j)) 0 (paLen m mx j) 1, true⟩, ⟨Is 65536 fun _ => 0, true⟩])) (L1.length + 2) (L1.length + 1) 1 rfl (get_mid (L := L1) 1 rfl) (get_mid (L := L1) 0 rfl) (fun j hj => by rw [Nat.add_comm 1 j, List.getElem?_cons_succ]; exact look_old (hR1 j hj) _) (by omega) (by omega) (fun j hj => by omega), rfl⟩, ?_⟩
      (refine Drop_slots (by first | exact Nat.le_refl _ | simp) ?_; focus ((try simp only [JL_same, JL_J, JL_nil, Int.reduceAdd, Nat.sub_sub, Int.natCast_add, Int.natCast_one, Int.natCast_zero, Int.cast_ofNat_Int, Nat.add_zero, Bool.false_eq_true, if_false, if_true]); (try exact JL_refl _)))
    · refine ⟨_, ⟨_, _, _, _, lay_x (X := ⟨Ci m bx mx pl r, true⟩ :: ⟨Is 65536 fun _ => 0, true⟩ :: (L2 ++ [⟨Vs 16 fun j => sl (h.length + (2 + j)) 0 (paLen m mx j) 1, true⟩])) (1) (L2.length + 2) 2 rfl (rfl) (get_mid (L := L2) 0 rfl) (fun j hj => by rw [Nat.add_comm 2 j, List.getElem?_cons_succ, List.getElem?_cons_succ]; exact look_old (hR2 j hj) _) (by omega) (by omega) (fun j hj => by omega), rfl⟩, ?_⟩
      (refine Drop_slots (by first | exact Nat.le_refl _ | simp) ?_; focus ((try simp only [JL_same, JL_J, JL_nil, Int.reduceAdd, Nat.sub_sub, Int.natCast_add, Int.natCast_one, Int.natCast_zero, Int.cast_ofNat_Int, Nat.add_zero, Bool.false_eq_true, if_false, if_true]); (try exact JL_refl _)))
    · refine ⟨_, ⟨_, _, _, _, lay_x (X := ⟨Ci m bx mx pl r, true⟩ :: ⟨Is 65536 fun _ => 0, true⟩ :: ⟨Vs 16 fun j => sl (h.length + (3 + j)) 0 (paLen m mx j) 1, true⟩ :: L3) (1) (2) 3 rfl (rfl) (rfl) (fun j hj => by rw [Nat.add_comm 3 j, List.getElem?_cons_succ, List.getElem?_cons_succ, List.getElem?_cons_succ]; exact hR3 j hj) (by omega) (by omega) (fun j hj => by omega), rfl⟩, ?_⟩
      (refine Drop_slots (by first | exact Nat.le_refl _ | simp) ?_; focus ((try simp only [JL_same, JL_J, JL_nil, Int.reduceAdd, Nat.sub_sub, Int.natCast_add, Int.natCast_one, Int.natCast_zero, Int.cast_ofNat_Int, Nat.add_zero, Bool.false_eq_true, if_false, if_true]); (try exact JL_refl _)))
    · refine ⟨_, ⟨_, _, _, _, lay_x (X := ⟨Ci m bx mx pl r, true⟩ :: ⟨Vs 16 fun j => sl (h.length + (2 + j)) 0 (paLen m mx j) 1, true⟩ :: (L2 ++ [⟨Is 65536 fun _ => 0, true⟩])) (L2.length + 2) (1) 2 rfl (get_mid (L := L2) 0 rfl) (rfl) (fun j hj => by rw [Nat.add_comm 2 j, List.getElem?_cons_succ, List.getElem?_cons_succ]; exact look_old (hR2 j hj) _) (by omega) (by omega) (fun j hj => by omega), rfl⟩, ?_⟩
      (refine Drop_slots (by first | exact Nat.le_refl _ | simp) ?_; focus ((try simp only [JL_same, JL_J, JL_nil, Int.reduceAdd, Nat.sub_sub, Int.natCast_add, Int.natCast_one, Int.natCast_zero, Int.cast_ofNat_Int, Nat.add_zero, Bool.false_eq_true, if_false, if_true]); (try exact JL_refl _)))
    · refine ⟨_, ⟨_, _, _, _, lay_x (X := ⟨Ci m bx mx pl r, true⟩ :: ⟨Vs 16 fun j => sl (h.length + (2 + j)) 0 (paLen m mx j) 1, true⟩ :: (L2 ++ [⟨Is 65536 fun _ => 0, true⟩])) (L2.length + 2) (1) 2 rfl (get_mid (L := L2) 0 rfl) (rfl) (fun j hj => by rw [Nat.add_comm 2 j, List.getElem?_cons_succ, List.getElem?_cons_succ]; exact look_old (hR2 j hj) _) (by omega) (by omega) (fun j hj => by omega), rfl⟩, ?_⟩
      (refine Drop_slots (by first | exact Nat.le_refl _ | simp) ?_; focus ((try simp only [JL_same, JL_J, JL_nil, Int.reduceAdd, Nat.sub_sub, Int.natCast_add, Int.natCast_one, Int.natCast_zero, Int.cast_ofNat_Int, Nat.add_zero, Bool.false_eq_true, if_false, if_true]); (try exact JL_refl _)))
    · refine ⟨_, ⟨_, _, _, _, lay_x (X := ⟨Ci m bx mx pl r, true⟩ :: ⟨Vs 16 fun j => sl (h.length + (3 + j)) 0 (paLen m mx j) 1, true⟩ :: ⟨Is 65536 fun _ => 0, true⟩ :: L3) (2) (1) 3 rfl (rfl) (rfl) (fun j hj => by rw [Nat.add_comm 3 j, List.getElem?_cons_succ, List.getElem?_cons_succ, List.getElem?_cons_succ]; exact hR3 j hj) (by omega) (by omega) (fun j hj => by omega), rfl⟩, ?_⟩
      (refine Drop_slots (by first | exact Nat.le_refl _ | simp) ?_; focus ((try simp only [JL_same, JL_J, JL_nil, Int.reduceAdd, Nat.sub_sub, Int.natCast_add, Int.natCast_one, Int.natCast_zero, Int.cast_ofNat_Int, Nat.add_zero, Bool.false_eq_true, if_false, if_true]); (try exact JL_refl _)))
  · rintro _ ⟨H, cb, pb, g, x, rfl⟩
    have hlen := x.le
    (repeat (first | ((first | (refine And.intro ?_ ?_; focus (first | exact plain_agg (by simp only [go_sem]) | exact plain_two (by first | exact plain_agg (by simp only [go_sem]) | rfl) rfl | rfl)) | refine WA_seq (WA_region ?_) | refine WA_region ?_ | refine WA_exit ?_); try simp (maxSteps := 1000000) (disch := first | omega | rfl | decide | (simp only [List.length_cons, List.length_nil, List.length_append, Bs_length, Is_length, Vs_length, Bl_length, Il_length] <;> omega)) only [go_sem, Nat.reduceAdd, Int.reduceAdd, Int.reduceSub, Int.reduceMul, Bool.not_true, Bool.not_false]) | refine WA_seq ?_ | refine WA_block ?_ | (refine WA_skip ?_; try simp only [go_sem]) | (refine WA_ret ?_; try simp only [go_sem]) | refine WA_ct rfl ?_ | refine WA_cf rfl ?_))
    refine WA_forX (fun k s' => ∃ (H : List Blk) (cb pb : Nat) (g : Nat → Nat), Lay h H ⟨Ci m bx mx pl r, true⟩ cb (onF k) pb g (paLen m mx) (paN m mx) ∧ s' = ⟨[J, .int .i64 n, pt h.length 0, J, .int .i64 0, .int .i64 0, pt pb 0, sl cb 0 65536 1, J, J, J, J, J, J, J, J, J, J, J, J, J, J, J, J, J, J, J, J, J, .int .i64 65536, .int .i64 k, J, J, J, J, J, J, J, J, J, J, J, J, J, J, J, J, J, J, J, J, J, J, J, J, J, J, J, J, J, J, J, J, J, J, J, J, J, J, J, J, J, J, J, J, J, J, J, J, J, J, J, J, J, J, J, J, J, J, J, J, J, J, J, J], H⟩) 65536 ?_ ?_ ?_
    · refine ⟨_, ⟨H, cb, pb, g, by rw [onF_zero]; exact x, rfl⟩, ?_⟩
      (refine Drop_slots (by first | assumption | exact Nat.le_refl _) ?_; focus ((try simp only [JL_same, JL_J, JL_nil, Int.reduceAdd, Nat.sub_sub, Int.natCast_add, Int.natCast_one, Int.natCast_zero, Int.cast_ofNat_Int, Nat.add_zero, Bool.false_eq_true, if_false, if_true]); (try exact JL_refl _)))
    · rintro k hk _ ⟨H, cb, pb, g, x, rfl⟩
      have hlen := x.le
      have hco := x.co
      (repeat (first | ((first | (refine And.intro ?_ ?_; focus (first | exact plain_agg (by simp only [go_sem]) | exact plain_two (by first | exact plain_agg (by simp only [go_sem]) | rfl) rfl | rfl)) | ((first | with_reducible apply callB_i | with_reducible apply callK_intro | with_reducible apply callQ_i); (focus (first | assumption | (with_reducible apply ocU_ac hk <;> (first | assumption | rfl | (simp (disch := omega) only [go_sem]; first | done | rfl) | omega | decide | (simp; done))))); (try (focus (refine WP.mk ?_ ?_; (focus ((repeat (first | exact trivial | (refine And.intro ?_ ?_; (focus first | exact plainV_wf rfl | (refine plainV_wf (plain_agg ?_); simp only [go_sem]; done) | (simp only [wfV, wf1, wfC, List.length_append, List.length_cons, List.length_nil]; omega))))))); (focus (first | rfl | (refine plain_agg ?_; simp only [go_sem]; done) | (refine plain_two ?_ ?_ <;> first | rfl | (refine plain_agg ?_; simp only [go_sem]; done)))))))) | refine WA_seq (WA_region ?_) | refine WA_region ?_ | refine WA_exit ?_); try simp (maxSteps := 1000000) (disch := first | omega | rfl | decide | (simp only [List.length_cons, List.length_nil, List.length_append, Bs_length, Is_length, Vs_length, Bl_length, Il_length] <;> omega)) only [go_sem, Nat.reduceAdd, Int.reduceAdd, Int.reduceSub, Int.reduceMul, Bool.not_true, Bool.not_false, hco, onF_next]) | refine WA_seq ?_ | refine WA_block ?_ | (refine WA_skip ?_; try simp only [go_sem]) | (refine WA_ret ?_; try simp only [go_sem]) | refine WA_ct rfl ?_ | refine WA_cf rfl ?_))
      have hle2 := (x.set (onF (k + 1))).le
      refine ⟨_, ⟨_, cb, pb, g, x.set (onF (k + 1)), rfl⟩, ?_⟩
      (refine Drop_slots (by first | assumption | exact Nat.le_refl _) ?_; focus ((try simp only [JL_same, JL_J, JL_nil, Int.reduceAdd, Nat.sub_sub, Int.natCast_add, Int.natCast_one, Int.natCast_zero, Int.cast_ofNat_Int, Nat.add_zero, Bool.false_eq_true, if_false, if_true]); (try exact JL_refl _)))
    · rintro _ ⟨H, cb, pb, g, x, rfl⟩
      have hlen := x.le
      have hco := x.co
      (repeat (first | ((first | (refine And.intro ?_ ?_; focus (first | exact plain_agg (by simp only [go_sem]) | exact plain_two (by first | exact plain_agg (by simp only [go_sem]) | rfl) rfl | rfl)) | refine WA_seq (WA_region ?_) | refine WA_region ?_ | refine WA_exit ?_); try simp (maxSteps := 1000000) (disch := first | omega | rfl | decide | (simp only [List.length_cons, List.length_nil, List.length_append, Bs_length, Is_length, Vs_length, Bl_length, Il_length] <;> omega)) only [go_sem, Nat.reduceAdd, Int.reduceAdd, Int.reduceSub, Int.reduceMul, Bool.not_true, Bool.not_false, hco]) | refine WA_seq ?_ | refine WA_block ?_ | (refine WA_skip ?_; try simp only [go_sem]) | (refine WA_ret ?_; try simp only [go_sem]) | refine WA_ct rfl ?_ | refine WA_cf rfl ?_))
      have x2 := x.set st0
      rw [onF_all]
      generalize H.set cb ⟨Is 65536 st0, true⟩ = H2 at *
      have hlen := x2.le
      refine WA_forX (fun k s' => ∃ (H : List Blk) (cb pb : Nat) (g : Nat → Nat), Lay h H ⟨Ci m bx mx pl r, true⟩ cb (itI pl (paN m mx) (paLen m mx) k) pb g (paLen m mx) (paN m mx) ∧ s' = ⟨[J, .int .i64 n, pt h.length 0, J, .int .i64 0, .int .i64 0, pt pb 0, sl cb 0 65536 1, J, J, J, J, J, J, J, J, J, J, J, J, J, J, J, J, J, J, J, J, J, J, J, J, J, J, J, J, J, J, J, J, J, J, J, .int .i64 ((n - 1 : Nat) : Int), .int .i64 k, J, J, J, J, J, J, J, J, J, J, J, J, J, J, J, J, J, J, J, J, J, J, J, J, J, J, J, J, J, J, J, J, J, J, J, J, J, J, J, J, J, J, J, J, J, J, J, J, J, J], H⟩) (n - 1) ?_ ?_ ?_
      · refine ⟨_, ⟨H2, cb, pb, g, by rw [itI_zero]; exact x2, rfl⟩, ?_⟩
        (refine Drop_slots (by first | assumption | exact Nat.le_refl _) ?_; focus ((try simp only [JL_same, JL_J, JL_nil, Int.reduceAdd, Nat.sub_sub, Int.natCast_add, Int.natCast_one, Int.natCast_zero, Int.cast_ofNat_Int, Nat.add_zero, Bool.false_eq_true, if_false, if_true]); (try exact JL_refl _)))
      · rintro q hq _ ⟨H, cb, pb, g, x, rfl⟩
        have hci := x.ci
        have hbd := itI_bd hp (paN m mx) (paLen m mx) (show q ≤ 20 by omega)
        have hmb : ∀ t, t < 65536 → 0 ≤ mvC pl (itI pl (paN m mx) (paLen m mx) q) 1000 65536 t := fun t _ => mvC_bdI hbd t
        have hlen := x.le
        (repeat (first | ((first | (refine And.intro ?_ ?_; focus (first | exact plain_agg (by simp only [go_sem]) | exact plain_two (by first | exact plain_agg (by simp only [go_sem]) | rfl) rfl | rfl)) | ((first | with_reducible apply callB_i | with_reducible apply callK_intro | with_reducible apply callQ_i); (focus (first | assumption | (with_reducible apply rep1_ac <;> (first | assumption | (refine look_old ?_ _; assumption) | rfl | (simp (disch := omega) only [go_sem]; first | done | rfl) | omega | decide | (simp; done))))); (try (focus (refine WP.mk ?_ ?_; (focus ((repeat (first | exact trivial | (refine And.intro ?_ ?_; (focus first | exact plainV_wf rfl | (refine plainV_wf (plain_agg ?_); simp only [go_sem]; done) | (simp only [wfV, wf1, wfC, List.length_append, List.length_cons, List.length_nil]; omega))))))); (focus (first | rfl | (refine plain_agg ?_; simp only [go_sem]; done) | (refine plain_two ?_ ?_ <;> first | rfl | (refine plain_agg ?_; simp only [go_sem]; done)))))))) | refine WA_seq (WA_region ?_) | refine WA_region ?_ | refine WA_exit ?_); try simp (maxSteps := 1000000) (disch := first | omega | rfl | decide | (simp only [List.length_cons, List.length_nil, List.length_append, Bs_length, Is_length, Vs_length, Bl_length, Il_length] <;> omega)) only [go_sem, Nat.reduceAdd, Int.reduceAdd, Int.reduceSub, Int.reduceMul, Bool.not_true, Bool.not_false, hci]) | refine WA_seq ?_ | refine WA_block ?_ | (refine WA_skip ?_; try simp only [go_sem]) | (refine WA_ret ?_; try simp only [go_sem]) | refine WA_ct rfl ?_ | refine WA_cf rfl ?_))
        refine WA_forP (fun k => [(10, J), (11, J), (50, .int .i64 k), (51, J), (52, J), (53, J), (54, J), (55, J), (56, J), (57, J), (58, J), (59, J), (60, J), (61, J), (62, J)]) (fun k => [(1, ⟨Is 65536 (mvC pl (itI pl (paN m mx) (paLen m mx) q) 1000 k), true⟩)]) (65536) ?_ ?_ ?_ <;> (try simp only [patT_cons, patT_nil, patL_cons, patL_nil, list_set_zero, list_set_succ, blk_set_zero, blk_set_succ])
        · rw [mvC_zero]
          (refine Drop_slots (by first | exact Nat.le_refl _ | (simp only [List.length_append, rowsH_len, List.length_cons, List.length_nil]; omega) | (simp only [List.length_append, rowsH_len, List.length_cons, List.length_nil, Nat.le_refl]; done)) ?_; focus ((try simp only [JL_same, JL_J, JL_nil, Int.reduceAdd, Nat.sub_sub, Int.natCast_add, Int.natCast_one, Int.natCast_zero, Int.cast_ofNat_Int, Nat.add_zero, Bool.false_eq_true, if_false, if_true]); (try exact JL_refl _)))
        · intro s hs
          have hco0 := look_old x.co [⟨[.int .i64 1000], true⟩, ⟨Is 65536 (mvC pl (itI pl (paN m mx) (paLen m mx) q) 1000 s), true⟩]
          have hci0 := look_old x.ci [⟨[.int .i64 1000], true⟩, ⟨Is 65536 (mvC pl (itI pl (paN m mx) (paLen m mx) q) 1000 s), true⟩]
          have hm := mvM_lt pl s 16
          (repeat (first | ((first | (refine And.intro ?_ ?_; focus (first | exact plain_agg (by simp only [go_sem]) | exact plain_two (by first | exact plain_agg (by simp only [go_sem]) | rfl) rfl | rfl)) | ((first | with_reducible apply callB_i | with_reducible apply callK_intro | with_reducible apply callQ_i); (focus (first | assumption | (with_reducible apply movI_ac pl hs <;> (first | assumption | rfl | (simp (disch := omega) only [go_sem]; first | done | rfl) | omega | decide | (simp; done))))); (try (focus (refine WP.mk ?_ ?_; (focus ((repeat (first | exact trivial | (refine And.intro ?_ ?_; (focus first | exact plainV_wf rfl | (refine plainV_wf (plain_agg ?_); simp only [go_sem]; done) | (simp only [wfV, wf1, wfC, List.length_append, List.length_cons, List.length_nil]; omega))))))); (focus (first | rfl | (refine plain_agg ?_; simp only [go_sem]; done) | (refine plain_two ?_ ?_ <;> first | rfl | (refine plain_agg ?_; simp only [go_sem]; done)))))))) | refine WA_seq (WA_region ?_) | refine WA_region ?_ | refine WA_exit ?_); try simp (maxSteps := 1000000) (disch := first | omega | rfl | decide | (simp only [List.length_cons, List.length_nil, List.length_append, Bs_length, Is_length, Vs_length, Bl_length, Il_length] <;> omega)) only [go_sem, Nat.reduceAdd, Int.reduceAdd, Int.reduceSub, Int.reduceMul, Bool.not_true, Bool.not_false, hco0, hci0, mvC_next]) | refine WA_seq ?_ | refine WA_block ?_ | (refine WA_skip ?_; try simp only [go_sem]) | (refine WA_ret ?_; try simp only [go_sem]) | refine WA_ct rfl ?_ | refine WA_cf rfl ?_))
          (refine Drop_slots (by first | exact Nat.le_refl _ | (simp only [List.length_append, rowsH_len, List.length_cons, List.length_nil]; omega) | (simp only [List.length_append, rowsH_len, List.length_cons, List.length_nil, Nat.le_refl]; done)) ?_; focus ((try simp only [JL_same, JL_J, JL_nil, Int.reduceAdd, Nat.sub_sub, Int.natCast_add, Int.natCast_one, Int.natCast_zero, Int.cast_ofNat_Int, Nat.add_zero, Bool.false_eq_true, if_false, if_true]); (try exact JL_refl _)))
        · have x3 := x.ext (L := [⟨[.int .i64 1000], true⟩, ⟨Is 65536 (mvC pl (itI pl (paN m mx) (paLen m mx) q) 1000 65536), true⟩]) (k := 1) rfl
          have hlen := x3.le
          generalize hmv : mvC pl (itI pl (paN m mx) (paLen m mx) q) 1000 65536 = mv at *
          (repeat (first | ((first | (refine And.intro ?_ ?_; focus (first | exact plain_agg (by simp only [go_sem]) | exact plain_two (by first | exact plain_agg (by simp only [go_sem]) | rfl) rfl | rfl)) | refine WA_seq (WA_region ?_) | refine WA_region ?_ | refine WA_exit ?_); try simp (maxSteps := 1000000) (disch := first | omega | rfl | decide | (simp only [List.length_cons, List.length_nil, List.length_append, Bs_length, Is_length, Vs_length, Bl_length, Il_length] <;> omega)) only [go_sem, Nat.reduceAdd, Int.reduceAdd, Int.reduceSub, Int.reduceMul, Bool.not_true, Bool.not_false]) | refine WA_seq ?_ | refine WA_block ?_ | (refine WA_skip ?_; try simp only [go_sem]) | (refine WA_ret ?_; try simp only [go_sem]) | refine WA_ct rfl ?_ | refine WA_cf rfl ?_))
          refine WA_forX (fun c s' => ∃ (H : List Blk) (cb pb : Nat) (g : Nat → Nat), Lay h H ⟨Ci m bx mx pl r, true⟩ cb (colN (paN m mx) (paLen m mx) mv c) pb g (paLen m mx) (paN m mx) ∧ s' = ⟨[J, .int .i64 n, pt h.length 0, J, .int .i64 0, .int .i64 0, pt pb 0, J, J, sl cb 0 65536 1, J, J, J, J, J, J, J, J, J, J, J, J, J, J, J, J, J, J, J, J, J, J, J, J, J, J, J, J, J, J, J, J, J, .int .i64 ((n - 1 : Nat) : Int), .int .i64 q, J, J, J, J, J, J, J, J, J, J, J, J, J, J, J, J, J, J, .int .i64 c, J, J, J, J, J, J, J, J, J, J, J, J, J, J, J, J, J, J, J, J, J, J, J, J, J, J, J, J, J, J, J], H⟩) 4 ?_ ?_ ?_
          · refine ⟨_, ⟨_, _, pb, g, by rw [colN_zero]; exact x3, rfl⟩, ?_⟩
            (refine Drop_slots (by first | assumption | exact Nat.le_refl _) ?_; focus ((try simp only [JL_same, JL_J, JL_nil, Int.reduceAdd, Nat.sub_sub, Int.natCast_add, Int.natCast_one, Int.natCast_zero, Int.cast_ofNat_Int, Nat.add_zero, Bool.false_eq_true, if_false, if_true]); (try exact JL_refl _)))
          · rintro c hc _ ⟨H, cb, pb, g, x, rfl⟩
            have hsp := x.sp
            have hbec := bec_ac (c := c) hc x.row (paN_lt m mx) (paLen_le16 m mx) x.co (colN_bd hmb c)
            rw [colN_next] at hbec
            have x4 := x.ext (L := [⟨Vs 16 fun j => sl (g j) 0 (paLen m mx j) 1, true⟩, ⟨[.int .i64 1000], true⟩, ⟨Is 65536 (colN (paN m mx) (paLen m mx) mv (c + 1)), true⟩]) (k := 2) rfl
            have hlen := x4.le
            (repeat (first | ((first | (refine And.intro ?_ ?_; focus (first | exact plain_agg (by simp only [go_sem]) | exact plain_two (by first | exact plain_agg (by simp only [go_sem]) | rfl) rfl | rfl)) | ((first | with_reducible apply callB_i | with_reducible apply callK_intro | with_reducible apply callQ_i); (focus (first | assumption | (with_reducible apply hbec <;> (first | assumption | rfl | (simp (disch := omega) only [go_sem]; first | done | rfl) | omega | decide | (simp; done))))); (try (focus (refine WP.mk ?_ ?_; (focus ((repeat (first | exact trivial | (refine And.intro ?_ ?_; (focus first | exact plainV_wf rfl | (refine plainV_wf (plain_agg ?_); simp only [go_sem]; done) | (simp only [wfV, wf1, wfC, List.length_append, List.length_cons, List.length_nil]; omega))))))); (focus (first | rfl | (refine plain_agg ?_; simp only [go_sem]; done) | (refine plain_two ?_ ?_ <;> first | rfl | (refine plain_agg ?_; simp only [go_sem]; done)))))))) | refine WA_seq (WA_region ?_) | refine WA_region ?_ | refine WA_exit ?_); try simp (maxSteps := 1000000) (disch := first | omega | rfl | decide | (simp only [List.length_cons, List.length_nil, List.length_append, Bs_length, Is_length, Vs_length, Bl_length, Il_length] <;> omega)) only [go_sem, Nat.reduceAdd, Int.reduceAdd, Int.reduceSub, Int.reduceMul, Bool.not_true, Bool.not_false, hsp]) | refine WA_seq ?_ | refine WA_block ?_ | (refine WA_skip ?_; try simp only [go_sem]) | (refine WA_ret ?_; try simp only [go_sem]) | refine WA_ct rfl ?_ | refine WA_cf rfl ?_))
            refine ⟨_, ⟨_, _, pb, g, x4, rfl⟩, ?_⟩
            (refine Drop_slots (by first | assumption | exact Nat.le_refl _) ?_; focus ((try simp only [JL_same, JL_J, JL_nil, Int.reduceAdd, Nat.sub_sub, Int.natCast_add, Int.natCast_one, Int.natCast_zero, Int.cast_ofNat_Int, Nat.add_zero, Bool.false_eq_true, if_false, if_true]); (try exact JL_refl _)))
          · rintro _ ⟨H, cb, pb, g, x, rfl⟩
            have hlen := x.le
            have hv0 := colN_bd (F := paN m mx) (len := paLen m mx) hmb 4
            have hnx : ∀ i, i < 65536 → adI (colN (paN m mx) (paLen m mx) mv 4) 65536 i = itI pl (paN m mx) (paLen m mx) (q + 1) i := by rw [← hmv]; exact fun i hi => itI_next pl (paN m mx) (paLen m mx) q i hi
            generalize colN (paN m mx) (paLen m mx) mv 4 = v at *
            (repeat (first | ((first | (refine And.intro ?_ ?_; focus (first | exact plain_agg (by simp only [go_sem]) | exact plain_two (by first | exact plain_agg (by simp only [go_sem]) | rfl) rfl | rfl)) | refine WA_seq (WA_region ?_) | refine WA_region ?_ | refine WA_exit ?_); try simp (maxSteps := 1000000) (disch := first | omega | rfl | decide | (simp only [List.length_cons, List.length_nil, List.length_append, Bs_length, Is_length, Vs_length, Bl_length, Il_length] <;> omega)) only [go_sem, Nat.reduceAdd, Int.reduceAdd, Int.reduceSub, Int.reduceMul, Bool.not_true, Bool.not_false]) | refine WA_seq ?_ | refine WA_block ?_ | (refine WA_skip ?_; try simp only [go_sem]) | (refine WA_ret ?_; try simp only [go_sem]) | refine WA_ct rfl ?_ | refine WA_cf rfl ?_))
            refine WA_forX (fun k s' => ∃ (H : List Blk) (cb pb : Nat) (g : Nat → Nat), Lay h H ⟨Ci m bx mx pl r, true⟩ cb (adI v k) pb g (paLen m mx) (paN m mx) ∧ s' = ⟨[J, .int .i64 n, pt h.length 0, J, .int .i64 0, .int .i64 0, pt pb 0, J, J, sl cb 0 65536 1, J, J, J, J, J, J, J, J, J, J, J, J, J, J, J, J, J, J, J, J, J, J, J, J, J, J, J, J, J, J, J, J, J, .int .i64 ((n - 1 : Nat) : Int), .int .i64 q, J, J, J, J, J, J, J, J, J, J, J, J, J, J, J, J, J, J, J, J, J, J, J, J, J, J, J, .int .i64 65536, .int .i64 k, J, J, J, J, J, J, J, J, J, J, J, J, J, J, J, J, J, J, J, J, J], H⟩) 65536 ?_ ?_ ?_
            · refine ⟨_, ⟨_, _, pb, g, by rw [adI_zero]; exact x, rfl⟩, ?_⟩
              (refine Drop_slots (by first | assumption | exact Nat.le_refl _) ?_; focus ((try simp only [JL_same, JL_J, JL_nil, Int.reduceAdd, Nat.sub_sub, Int.natCast_add, Int.natCast_one, Int.natCast_zero, Int.cast_ofNat_Int, Nat.add_zero, Bool.false_eq_true, if_false, if_true]); (try exact JL_refl _)))
            · rintro s hs _ ⟨H, cb, pb, g, x, rfl⟩
              have hlen := x.le
              have hco := x.co
              by_cases hlt : v s < 1000
              · have hd : decide (v s < 1000) = true := decide_eq_true hlt
                have hpp := popP_le s 16
                have h0 := hv0 s hs
                have hwv := wrap_i64 (n := v s + ((popP s 16 : Nat) : Int)) (by omega) (by omega)
                have x5 := x.set (adI v (s + 1))
                have hlen2 := x5.le
                (repeat (first | ((first | (refine And.intro ?_ ?_; focus (first | exact plain_agg (by simp only [go_sem]) | exact plain_two (by first | exact plain_agg (by simp only [go_sem]) | rfl) rfl | rfl)) | ((first | with_reducible apply callB_i | with_reducible apply callK_intro | with_reducible apply callQ_i); (focus (first | assumption | (with_reducible apply ocU_ac hs <;> (first | assumption | rfl | (simp (disch := omega) only [go_sem]; first | done | rfl) | omega | decide | (simp; done))))); (try (focus (refine WP.mk ?_ ?_; (focus ((repeat (first | exact trivial | (refine And.intro ?_ ?_; (focus first | exact plainV_wf rfl | (refine plainV_wf (plain_agg ?_); simp only [go_sem]; done) | (simp only [wfV, wf1, wfC, List.length_append, List.length_cons, List.length_nil]; omega))))))); (focus (first | rfl | (refine plain_agg ?_; simp only [go_sem]; done) | (refine plain_two ?_ ?_ <;> first | rfl | (refine plain_agg ?_; simp only [go_sem]; done)))))))) | refine WA_seq (WA_region ?_) | refine WA_region ?_ | refine WA_exit ?_); try simp (maxSteps := 1000000) (disch := first | omega | rfl | decide | (simp only [List.length_cons, List.length_nil, List.length_append, Bs_length, Is_length, Vs_length, Bl_length, Il_length] <;> omega)) only [go_sem, Nat.reduceAdd, Int.reduceAdd, Int.reduceSub, Int.reduceMul, Bool.not_true, Bool.not_false, hco, adI_at, hd, hwv, adI_next hlt]) | (refine (WA_rb (id := 29) [9] (SubM.refl _) mixedOk ?_); simp only [List.size_toArray, List.length_cons, List.length_nil]; (repeat (first | ((first | (refine And.intro ?_ ?_; focus (first | exact plain_agg (by simp only [go_sem]) | exact plain_two (by first | exact plain_agg (by simp only [go_sem]) | rfl) rfl | rfl)) | ((first | with_reducible apply callB_i | with_reducible apply callK_intro | with_reducible apply callQ_i); (focus (first | assumption | (with_reducible apply ocU_ac hs <;> (first | assumption | rfl | (simp (disch := omega) only [go_sem]; first | done | rfl) | omega | decide | (simp; done))))); (try (focus (refine WP.mk ?_ ?_; (focus ((repeat (first | exact trivial | (refine And.intro ?_ ?_; (focus first | exact plainV_wf rfl | (refine plainV_wf (plain_agg ?_); simp only [go_sem]; done) | (simp only [wfV, wf1, wfC, List.length_append, List.length_cons, List.length_nil]; omega))))))); (focus (first | rfl | (refine plain_agg ?_; simp only [go_sem]; done) | (refine plain_two ?_ ?_ <;> first | rfl | (refine plain_agg ?_; simp only [go_sem]; done)))))))) | refine RB_take false [0, 1, 2, 4, 5] 5 (by rfl) (by kernel_rfl) (by decide) (by decide +kernel) ?_ | refine RB_take true [3, 6] 3 (by rfl) (by kernel_rfl) (by decide) (by decide +kernel) ?_ | refine RB_take false [7, 8] 1 (by rfl) (by kernel_rfl) (by decide) (by decide +kernel) ?_ | refine RB_exec 9 _ (by rfl) (by decide +kernel) (by decide +kernel) ?_ | refine RB_done (by decide +kernel) ?_); try simp (maxSteps := 1000000) (disch := first | omega | rfl | decide | (simp only [List.length_cons, List.length_nil, List.length_append, Bs_length, Is_length, Vs_length, Bl_length, Il_length] <;> omega)) only [go_sem, Nat.reduceAdd, Int.reduceAdd, Int.reduceSub, Int.reduceMul, Bool.not_true, Bool.not_false, hco, adI_at, hd, hwv, adI_next hlt])))) | refine WA_seq ?_ | refine WA_block ?_ | (refine WA_skip ?_; try simp only [go_sem]) | (refine WA_ret ?_; try simp only [go_sem]) | refine WA_ct rfl ?_ | refine WA_cf rfl ?_))
                refine ⟨_, ⟨_, cb, pb, g, x5, rfl⟩, ?_⟩
                (refine Drop_slots (by first | assumption | exact Nat.le_refl _) ?_; focus ((try simp only [JL_same, JL_J, JL_nil, Int.reduceAdd, Nat.sub_sub, Int.natCast_add, Int.natCast_one, Int.natCast_zero, Int.cast_ofNat_Int, Nat.add_zero, Bool.false_eq_true, if_false, if_true]); (try exact JL_refl _)))
              · have hd : decide (v s < 1000) = false := decide_eq_false hlt
                have x5 := x
                rw [adI_skip hlt] at x5
                (repeat (first | ((first | (refine And.intro ?_ ?_; focus (first | exact plain_agg (by simp only [go_sem]) | exact plain_two (by first | exact plain_agg (by simp only [go_sem]) | rfl) rfl | rfl)) | refine WA_seq (WA_region ?_) | refine WA_region ?_ | refine WA_exit ?_); try simp (maxSteps := 1000000) (disch := first | omega | rfl | decide | (simp only [List.length_cons, List.length_nil, List.length_append, Bs_length, Is_length, Vs_length, Bl_length, Il_length] <;> omega)) only [go_sem, Nat.reduceAdd, Int.reduceAdd, Int.reduceSub, Int.reduceMul, Bool.not_true, Bool.not_false, hco, adI_at, hd]) | refine WA_seq ?_ | refine WA_block ?_ | (refine WA_skip ?_; try simp only [go_sem]) | (refine WA_ret ?_; try simp only [go_sem]) | refine WA_ct rfl ?_ | refine WA_cf rfl ?_))
                refine ⟨_, ⟨_, cb, pb, g, x5, rfl⟩, ?_⟩
                (refine Drop_slots (by first | assumption | exact Nat.le_refl _) ?_; focus ((try simp only [JL_same, JL_J, JL_nil, Int.reduceAdd, Nat.sub_sub, Int.natCast_add, Int.natCast_one, Int.natCast_zero, Int.cast_ofNat_Int, Nat.add_zero, Bool.false_eq_true, if_false, if_true]); (try exact JL_refl _)))
            · rintro _ ⟨H, cb, pb, g, x, rfl⟩
              have x6 := x.congr hnx
              have hlen := x6.le
              (repeat (first | ((first | (refine And.intro ?_ ?_; focus (first | exact plain_agg (by simp only [go_sem]) | exact plain_two (by first | exact plain_agg (by simp only [go_sem]) | rfl) rfl | rfl)) | refine WA_seq (WA_region ?_) | refine WA_region ?_ | refine WA_exit ?_); try simp (maxSteps := 1000000) (disch := first | omega | rfl | decide | (simp only [List.length_cons, List.length_nil, List.length_append, Bs_length, Is_length, Vs_length, Bl_length, Il_length] <;> omega)) only [go_sem, Nat.reduceAdd, Int.reduceAdd, Int.reduceSub, Int.reduceMul, Bool.not_true, Bool.not_false]) | refine WA_seq ?_ | refine WA_block ?_ | (refine WA_skip ?_; try simp only [go_sem]) | (refine WA_ret ?_; try simp only [go_sem]) | refine WA_ct rfl ?_ | refine WA_cf rfl ?_))
              refine ⟨_, ⟨_, cb, pb, g, x6, rfl⟩, ?_⟩
              (refine Drop_slots (by first | assumption | exact Nat.le_refl _) ?_; focus ((try simp only [JL_same, JL_J, JL_nil, Int.reduceAdd, Nat.sub_sub, Int.natCast_add, Int.natCast_one, Int.natCast_zero, Int.cast_ofNat_Int, Nat.add_zero, Bool.false_eq_true, if_false, if_true]); (try exact JL_refl _)))
      · rintro _ ⟨H, cb, pb, g, x, rfl⟩
        have hlen := x.le
        have hmin : AC Try.prog 130 [sl cb 0 65536 1] H (.int .i64 (mnF (itI pl (paN m mx) (paLen m mx) (n - 1)) 65535)) H := minI_ac (n := 65535) x.co (by omega)
        obtain ⟨A, hA⟩ := x.app
        (repeat (first | ((first | (refine And.intro ?_ ?_; focus (first | exact plain_agg (by simp only [go_sem]) | exact plain_two (by first | exact plain_agg (by simp only [go_sem]) | rfl) rfl | rfl)) | ((first | with_reducible apply callB_i | with_reducible apply callK_intro | with_reducible apply callQ_i); (focus (first | assumption | (with_reducible apply hmin <;> (first | assumption | rfl | (simp (disch := omega) only [go_sem]; first | done | rfl) | omega | decide | (simp; done))))); (try (focus (refine WP.mk ?_ ?_; (focus ((repeat (first | exact trivial | (refine And.intro ?_ ?_; (focus first | exact plainV_wf rfl | (refine plainV_wf (plain_agg ?_); simp only [go_sem]; done) | (simp only [wfV, wf1, wfC, List.length_append, List.length_cons, List.length_nil]; omega))))))); (focus (first | rfl | (refine plain_agg ?_; simp only [go_sem]; done) | (refine plain_two ?_ ?_ <;> first | rfl | (refine plain_agg ?_; simp only [go_sem]; done)))))))) | refine WA_seq (WA_region ?_) | refine WA_region ?_ | refine WA_exit ?_); try simp (maxSteps := 1000000) (disch := first | omega | rfl | decide | (simp only [List.length_cons, List.length_nil, List.length_append, Bs_length, Is_length, Vs_length, Bl_length, Il_length] <;> omega)) only [go_sem, Nat.reduceAdd, Int.reduceAdd, Int.reduceSub, Int.reduceMul, Bool.not_true, Bool.not_false]) | refine WA_seq ?_ | refine WA_block ?_ | (refine WA_skip ?_; try simp only [go_sem]) | (refine WA_ret ?_; try simp only [go_sem]) | refine WA_ct rfl ?_ | refine WA_cf rfl ?_))
        rw [hA]
        ((first | refine ret_none (by first | exact .inr rfl | exact .inl rfl) ?_ | refine ret_same (by first | exact .inr rfl | exact .inl rfl) ?_ (by first | rfl | exact plain_agg (by simp only [go_sem]) | exact plain_two (by first | exact plain_agg (by simp only [go_sem]) | rfl) (by first | exact plain_agg (by simp only [go_sem]) | rfl)) | refine ret_full (by first | exact .inr rfl | exact .inl rfl) (by simp) ?_); simp (maxSteps := 1000000) (disch := first | omega | rfl | decide | (simp only [List.length_cons, List.length_nil, List.length_append, Bs_length, Is_length, Vs_length, Bl_length, Il_length] <;> omega)) only [go_sem, Nat.reduceAdd, Int.reduceAdd, Int.reduceSub, Int.reduceMul, Bool.not_true, Bool.not_false]; try rfl)

end Go.Proofs.Ytkgiocoiojdgfaa
/- Least activity: the law. -/
namespace Go.Proofs.Ytkgiocoiojdgfaa
set_option linter.unusedSimpArgs false
set_option linter.unusedVariables false
set_option maxRecDepth 20000
set_option maxHeartbeats 1000000
open Go.Abs

theorem least_eq {pl : Nat → UInt8} (hp : plOk pl = true) (F : Nat → Nat → Nat) (len : Nat → Nat) {r : Nat} (hr : r ≤ 20) : lsF (itS pl F len r) 65536 = mnF (itI pl F len r) 65535 := lsF_cap (n := 65535) (it_cap hp F len r hr)
attribute [local irreducible] lsF mnF itS itI paN paLen
theorem leastActivity_ac (m r : Int) (bx mx pl : Nat → UInt8) (n : Int) (h : List Blk) : AC Try.prog 4 [.agg (Ci m bx mx pl r).toArray, .int .i64 n] h (.bool true) h := by
  cases hc : cipB m bx mx pl r
  · (refine AC_begin (fun _ _ => Try.call4 _ _) Try.func4 rfl Try.ntmps4 Try.results4 (fun hwf => ?_); simp only [List.length_cons, List.length_nil, Nat.reduceAdd, Nat.reduceSub, List.replicate, List.cons_append, List.nil_append])
    (repeat (first | ((first | (refine And.intro ?_ ?_; focus (first | exact plain_agg (by simp only [go_sem]) | exact plain_two (by first | exact plain_agg (by simp only [go_sem]) | rfl) rfl | rfl)) | ((first | with_reducible apply callB_i | with_reducible apply callK_intro | with_reducible apply callQ_i); (focus (first | assumption | ((first | with_reducible apply toCipher_ac | with_reducible apply lact_S_no hc | with_reducible apply lact_I_no hc) <;> (first | assumption | rfl | (simp (disch := omega) only [go_sem]; first | done | rfl) | omega | decide | (simp; done))))); (try (focus (refine WP.mk ?_ ?_; (focus ((repeat (first | exact trivial | (refine And.intro ?_ ?_; (focus first | exact plainV_wf rfl | (refine plainV_wf (plain_agg ?_); simp only [go_sem]; done) | (simp only [wfV, wf1, wfC, List.length_append, List.length_cons, List.length_nil]; omega))))))); (focus (first | rfl | (refine plain_agg ?_; simp only [go_sem]; done) | (refine plain_two ?_ ?_ <;> first | rfl | (refine plain_agg ?_; simp only [go_sem]; done)))))))) | refine WA_seq (WA_region ?_) | refine WA_region ?_ | refine WA_exit ?_); try simp (maxSteps := 1000000) (disch := first | omega | rfl | decide | (simp only [List.length_cons, List.length_nil, List.length_append, Bs_length, Is_length, Vs_length, Bl_length, Il_length] <;> omega)) only [go_sem, Nat.reduceAdd, Int.reduceAdd, Int.reduceSub, Int.reduceMul, Bool.not_true, Bool.not_false, bne_self_eq_false, yieldA_at 3 26]) | refine WA_seq ?_ | refine WA_block ?_ | (refine WA_skip ?_; try simp only [go_sem]) | (refine WA_ret ?_; try simp only [go_sem]) | refine WA_ct rfl ?_ | refine WA_cf rfl ?_))
    ((first | refine ret_none (by first | exact .inr rfl | exact .inl rfl) ?_ | refine ret_same (by first | exact .inr rfl | exact .inl rfl) ?_ (by first | rfl | exact plain_agg (by simp only [go_sem]) | exact plain_two (by first | exact plain_agg (by simp only [go_sem]) | rfl) (by first | exact plain_agg (by simp only [go_sem]) | rfl)) | refine ret_full (by first | exact .inr rfl | exact .inl rfl) (by simp) ?_); simp (maxSteps := 1000000) (disch := first | omega | rfl | decide | (simp only [List.length_cons, List.length_nil, List.length_append, Bs_length, Is_length, Vs_length, Bl_length, Il_length] <;> omega)) only [go_sem, Nat.reduceAdd, Int.reduceAdd, Int.reduceSub, Int.reduceMul, Bool.not_true, Bool.not_false]; try rfl)
  · cases hr : inR n 1 6
    · (refine AC_begin (fun _ _ => Try.call4 _ _) Try.func4 rfl Try.ntmps4 Try.results4 (fun hwf => ?_); simp only [List.length_cons, List.length_nil, Nat.reduceAdd, Nat.reduceSub, List.replicate, List.cons_append, List.nil_append])
      (repeat (first | ((first | (refine And.intro ?_ ?_; focus (first | exact plain_agg (by simp only [go_sem]) | exact plain_two (by first | exact plain_agg (by simp only [go_sem]) | rfl) rfl | rfl)) | ((first | with_reducible apply callB_i | with_reducible apply callK_intro | with_reducible apply callQ_i); (focus (first | assumption | ((first | with_reducible apply toCipher_ac | with_reducible apply lact_S_out hc hr | with_reducible apply lact_I_out hc hr) <;> (first | assumption | rfl | (simp (disch := omega) only [go_sem]; first | done | rfl) | omega | decide | (simp; done))))); (try (focus (refine WP.mk ?_ ?_; (focus ((repeat (first | exact trivial | (refine And.intro ?_ ?_; (focus first | exact plainV_wf rfl | (refine plainV_wf (plain_agg ?_); simp only [go_sem]; done) | (simp only [wfV, wf1, wfC, List.length_append, List.length_cons, List.length_nil]; omega))))))); (focus (first | rfl | (refine plain_agg ?_; simp only [go_sem]; done) | (refine plain_two ?_ ?_ <;> first | rfl | (refine plain_agg ?_; simp only [go_sem]; done)))))))) | refine WA_seq (WA_region ?_) | refine WA_region ?_ | refine WA_exit ?_); try simp (maxSteps := 1000000) (disch := first | omega | rfl | decide | (simp only [List.length_cons, List.length_nil, List.length_append, Bs_length, Is_length, Vs_length, Bl_length, Il_length] <;> omega)) only [go_sem, Nat.reduceAdd, Int.reduceAdd, Int.reduceSub, Int.reduceMul, Bool.not_true, Bool.not_false, bne_self_eq_false, yieldA_at 3 26]) | refine WA_seq ?_ | refine WA_block ?_ | (refine WA_skip ?_; try simp only [go_sem]) | (refine WA_ret ?_; try simp only [go_sem]) | refine WA_ct rfl ?_ | refine WA_cf rfl ?_))
      ((first | refine ret_none (by first | exact .inr rfl | exact .inl rfl) ?_ | refine ret_same (by first | exact .inr rfl | exact .inl rfl) ?_ (by first | rfl | exact plain_agg (by simp only [go_sem]) | exact plain_two (by first | exact plain_agg (by simp only [go_sem]) | rfl) (by first | exact plain_agg (by simp only [go_sem]) | rfl)) | refine ret_full (by first | exact .inr rfl | exact .inl rfl) (by simp) ?_); simp (maxSteps := 1000000) (disch := first | omega | rfl | decide | (simp only [List.length_cons, List.length_nil, List.length_append, Bs_length, Is_length, Vs_length, Bl_length, Il_length] <;> omega)) only [go_sem, Nat.reduceAdd, Int.reduceAdd, Int.reduceSub, Int.reduceMul, Bool.not_true, Bool.not_false]; try rfl)
    · obtain ⟨k, rfl, h0, h1, hf, _, hp, _⟩ := cipB_nat hc
      have hr2 := hr
      unfold inR at hr2
      simp only [Bool.and_eq_true, decide_eq_true_eq] at hr2
      obtain ⟨q, rfl⟩ : ∃ q : Nat, n = q := ⟨n.toNat, by omega⟩
      have hq1 : 1 ≤ q := by omega
      have hq2 : q ≤ 6 := by omega
      have he := least_eq hp (paN k mx) (paLen k mx) (show q - 1 ≤ 20 by omega)
      have hS := lact_S_op h0 h1 hf hc hp hr hq1 hq2
      rw [he] at hS
      have hI := lact_I_op h0 h1 hf hc hp hr hq1 hq2
      (refine AC_begin (fun _ _ => Try.call4 _ _) Try.func4 rfl Try.ntmps4 Try.results4 (fun hwf => ?_); simp only [List.length_cons, List.length_nil, Nat.reduceAdd, Nat.reduceSub, List.replicate, List.cons_append, List.nil_append])
      (repeat (first | ((first | (refine And.intro ?_ ?_; focus (first | exact plain_agg (by simp only [go_sem]) | exact plain_two (by first | exact plain_agg (by simp only [go_sem]) | rfl) rfl | rfl)) | ((first | with_reducible apply callB_i | with_reducible apply callK_intro | with_reducible apply callQ_i); (focus (first | assumption | ((first | with_reducible apply toCipher_ac | with_reducible apply hS | with_reducible apply hI) <;> (first | assumption | rfl | (simp (disch := omega) only [go_sem]; first | done | rfl) | omega | decide | (simp; done))))); (try (focus (refine WP.mk ?_ ?_; (focus ((repeat (first | exact trivial | (refine And.intro ?_ ?_; (focus first | exact plainV_wf rfl | (refine plainV_wf (plain_agg ?_); simp only [go_sem]; done) | (simp only [wfV, wf1, wfC, List.length_append, List.length_cons, List.length_nil]; omega))))))); (focus (first | rfl | (refine plain_agg ?_; simp only [go_sem]; done) | (refine plain_two ?_ ?_ <;> first | rfl | (refine plain_agg ?_; simp only [go_sem]; done)))))))) | refine WA_seq (WA_region ?_) | refine WA_region ?_ | refine WA_exit ?_); try simp (maxSteps := 1000000) (disch := first | omega | rfl | decide | (simp only [List.length_cons, List.length_nil, List.length_append, Bs_length, Is_length, Vs_length, Bl_length, Il_length] <;> omega)) only [go_sem, Nat.reduceAdd, Int.reduceAdd, Int.reduceSub, Int.reduceMul, Bool.not_true, Bool.not_false, bne_self_eq_false, yieldA_at 3 26]) | refine WA_seq ?_ | refine WA_block ?_ | (refine WA_skip ?_; try simp only [go_sem]) | (refine WA_ret ?_; try simp only [go_sem]) | refine WA_ct rfl ?_ | refine WA_cf rfl ?_))
      ((first | refine ret_none (by first | exact .inr rfl | exact .inl rfl) ?_ | refine ret_same (by first | exact .inr rfl | exact .inl rfl) ?_ (by first | rfl | exact plain_agg (by simp only [go_sem]) | exact plain_two (by first | exact plain_agg (by simp only [go_sem]) | rfl) (by first | exact plain_agg (by simp only [go_sem]) | rfl)) | refine ret_full (by first | exact .inr rfl | exact .inl rfl) (by simp) ?_); simp (maxSteps := 1000000) (disch := first | omega | rfl | decide | (simp only [List.length_cons, List.length_nil, List.length_append, Bs_length, Is_length, Vs_length, Bl_length, Il_length] <;> omega)) only [go_sem, Nat.reduceAdd, Int.reduceAdd, Int.reduceSub, Int.reduceMul, Bool.not_true, Bool.not_false]; try rfl)

end Go.Proofs.Ytkgiocoiojdgfaa
namespace Go.Proofs.Ytkgiocoiojdgfaa
set_option linter.unusedSimpArgs false
set_option linter.unusedVariables false
set_option maxRecDepth 20000
set_option maxHeartbeats 1000000
open Go.Abs

theorem leastActivity_args (us : List Value) (bl : List Blk) (h : ArgsU Try.prog 0 [27, 2] us bl) : AC Try.prog 4 us bl (.bool true) bl := by
  obtain ⟨m0, bx0, mx0, pl0, r0, us0, rfl, h0⟩ := h.cipher (by kernel_rfl) (by kernel_rfl)
  obtain ⟨x1, us1, rfl, w1, h1⟩ := h0.int (k := .i64) (by kernel_rfl)
  obtain ⟨rfl, rfl⟩ := h1.done
  exact leastActivity_ac m0 r0 bx0 mx0 pl0 x1 []

set_option maxRecDepth 100000 in
set_option maxHeartbeats 1000000 in
theorem leastActivity_lifted (os : Os) (started : os.Started) (H : Type) (enc : TypeId × Value → H) :
    ReturnsInHanded {} Try.checked os 4 .any (Rows.fnExactLeastActivitySpec.pre6 enc Try.prog Try.f4 Rows.fnExactLeastActivityRow.domain false) (Rows.fnExactLeastActivitySpec.post enc Try.prog Try.f4 false true false false) :=
  frame_law (C := Try.checked) (by kernel_rfl) started (by kernel_rfl) Try.func4 (by kernel_rfl)
    (ChangeSpec.witness6 (enc := enc) (C := Try.checked) false ⟨#[], #[.agg (#[.int .i64 0] ++ Array.replicate 288 (.int .u8 0) ++ #[.int .i64 0]), .int .i64 0], []⟩ 8 (by kernel_rfl) (by kernel_rfl) (by kernel_rfl) (by kernel_rfl))
    rfl (fun ds h => by rw [Try.params4] at h; match ds, h with | [_, _], _ => rfl) (by rfl) Try.underlying4 (by rw [Try.params4]; kernel_rfl)
    (by rw [Try.params4]; exact leastActivity_args)

/-- ████ THE STATEMENT ████ -/
theorem leastActivity : Rows.FnExactLeastActivitySaid :=
  OpenClaim.holds_of_wide 4 Try.f4 rfl rfl rfl rfl rfl rfl rfl ⟨rfl, rfl, rfl, rfl, rfl⟩ rfl rfl rfl rfl rfl (by kernel_rfl) Try.func4 (by kernel_rfl)
    (of_decide_eq_true (by kernel_rfl)) (by unfold Func.isWrapper; first | (rw [if_pos (by decide +kernel)]; kernel_rfl) | (rw [if_neg (by decide +kernel)]; exact ⟨rfl, rfl⟩))
    (fun os started H enc _ => leastActivity_lifted os started H enc)
#print axioms leastActivity
end Go.Proofs.Ytkgiocoiojdgfaa
