/- FnTrails is proved: whatever the input, the law returns true and its arguments read as they did. No condition. -/
import Derived.Test.YtenkjbkcdcionaaGreatQTLH
import Derived.Test.YtenkjbkcdcionaaGreatQTL3
import Derived.Test.YtenkjbkcdcionaaGreatQTL4
import Derived.Test.YtenkjbkcdcionaaGreatQTL5
import Derived.Test.YtenkjbkcdcionaaGreatQTL6
import Derived.Test.YtenkjbkcdcionaaGreatQTL7
import Derived.Test.YtenkjbkcdcionaaGreatQTL8
/- Least activity: the program. -/
namespace Go.Proofs.YtenkjbkcdcionaaGreat
set_option linter.unusedSimpArgs false
set_option linter.unusedVariables false
set_option maxRecDepth 20000
set_option maxHeartbeats 1000000
open Go.Abs

def adI (v : Nat → Int) (k : Nat) : Nat → Int := fun i => if i < k then (if v i < 1000 then v i + ((popP i 16 : Nat) : Int) else v i) else v i
theorem adI_zero (v : Nat → Int) : adI v 0 = v := funext fun i => if_neg (Nat.not_lt_zero i)
theorem adI_at (v : Nat → Int) (k : Nat) : adI v k k = v k := if_neg (Nat.lt_irrefl k)
theorem adI_next {v : Nat → Int} {k : Nat} (h : v k < 1000) : upd (adI v k) k (v k + ((popP k 16 : Nat) : Int)) = adI v (k + 1) := by
  funext i
  show (if i = k then v k + ((popP k 16 : Nat) : Int) else adI v k i) = adI v (k + 1) i
  unfold adI
  by_cases e : i = k
  · subst e; rw [if_pos rfl, if_pos (by omega), if_pos h]
  · rw [if_neg e]
    by_cases h2 : i < k
    · rw [if_pos h2, if_pos (show i < k + 1 by omega)]
    · rw [if_neg h2, if_neg (show ¬ i < k + 1 by omega)]
theorem adI_skip {v : Nat → Int} {k : Nat} (h : ¬ v k < 1000) : adI v k = adI v (k + 1) := by
  funext i
  unfold adI
  by_cases e : i = k
  · subst e; rw [if_neg (by omega), if_pos (by omega), if_neg h]
  · by_cases h2 : i < k
    · rw [if_pos h2, if_pos (show i < k + 1 by omega)]
    · rw [if_neg h2, if_neg (show ¬ i < k + 1 by omega)]
theorem Lay.congr {h M : List Blk} {C : Blk} {cb pb : Nat} {f f' : Nat → Int} {g len : Nat → Nat} {F : Nat → Nat → Nat} (x : Lay h M C cb f pb g len F) (e : ∀ i, i < 65536 → f i = f' i) : Lay h M C cb f' pb g len F where
  ci := x.ci
  co := by rw [← Is_congr e]; exact x.co
  sp := x.sp
  row := x.row
  app := x.app
  nc := x.nc
  np := x.np
  nr := x.nr
theorem itI_next (pl : Nat → UInt8) (F : Nat → Nat → Nat) (len : Nat → Nat) (r : Nat) (i : Nat) (hi : i < 65536) : adI (colN F len (mvC pl (itI pl F len r) 1000 65536) 4) 65536 i = itI pl F len (r + 1) i := if_pos hi
theorem itI_zero (pl : Nat → UInt8) (F : Nat → Nat → Nat) (len : Nat → Nat) : itI pl F len 0 = st0 := rfl
theorem mvC_bdI {pl : Nat → UInt8} {f : Nat → Int} (hf : ∀ s, s < 65536 → 0 ≤ f s ∧ f s ≤ 1000) (t : Nat) : 0 ≤ mvC pl f 1000 65536 t := (wrR_bd (lo := 0) (hi := 1000) (fun _ => by omega) 65536 hf t).1
theorem lay_x {h X : List Blk} {C : Blk} {f : Nat → Int} {len : Nat → Nat} {F : Nat → Nat → Nat} (kc kp N : Nat) (h0 : X[0]? = some C) (hc : X[kc]? = some ⟨Is 65536 f, true⟩) (hp : X[kp]? = some ⟨Vs 16 fun j => sl (h.length + (N + j)) 0 (len j) 1, true⟩)
    (hr : ∀ j, j < 16 → X[N + j]? = some ⟨Is (len j) fun i => ((F j i : Nat) : Int), true⟩) (h1 : 0 < kc) (h2 : kp ≠ kc) (h3 : ∀ j, j < 16 → N + j ≠ kc) : Lay h (h ++ X) C (h.length + kc) f (h.length + kp) (fun j => h.length + (N + j)) len F where
  ci := by have := look_at (h := h) (X := X) 0; rw [Nat.add_zero] at this; rw [this]; exact h0
  co := by rw [look_at]; exact hc
  sp := by rw [look_at]; exact hp
  row := fun j hj => by rw [look_at]; exact hr j hj
  app := ⟨_, rfl⟩
  nc := by omega
  np := by omega
  nr := fun j hj => by have := h3 j hj; omega
theorem get_mid {L : List Blk} {X : List Blk} {x : Blk} (k : Nat) (h : X[k]? = some x) : (L ++ X)[L.length + k]? = some x := by rw [List.getElem?_append_right (by omega), Nat.add_sub_cancel_left]; exact h
attribute [local irreducible] Is mvM mvC cols inn colN rpF adF adI tgN Vs mnF itI rdI onF st0 paN paLen paF
attribute [local irreducible] contK
theorem lact_I_op {m n : Nat} {r : Int} {bx mx pl : Nat → UInt8} (h0 : 256 ≤ m) (h1 : m < 512) (hf : fieldB m = true) (hc : cipB m bx mx pl r = true) (hp : plOk pl = true) (hr : inR n 1 6 = true) (hn0 : 1 ≤ n) (hn : n ≤ 6) (h : List Blk) :
    AC Tryz.prog 14 [.agg (Ci m bx mx pl r).toArray, .int .i64 n] h (.tuple #[.int .i64 (mnF (itI pl (paN m mx) (paLen m mx) (n - 1)) 65535), .int .i64 0]) h := by
  have hi := inI_ac n 1 6
  rw [hr] at hi
  have tn : Int.toNat 65536 = 65536 := rfl
  obtain ⟨L1, hN1, hR1, hS1, hA1⟩ := patI_gen h0 h1 hf mx (h.length + 1)
  obtain ⟨L2, hN2, hR2, hS2, hA2⟩ := patI_gen h0 h1 hf mx (h.length + 2)
  obtain ⟨L3, hN3, hR3, hS3, hA3⟩ := patI_gen h0 h1 hf mx (h.length + 3)
  have hNL1 : NL L1 := ⟨hN1⟩
  have hNL2 : NL L2 := ⟨hN2⟩
  have hNL3 : NL L3 := ⟨hN3⟩
  have hB1 := hA1 (ro (h ++ [⟨Ci m bx mx pl r, true⟩])) (by simp [ro_length])
  have hB2 := hA2 (ro (h ++ [⟨Ci m bx mx pl r, true⟩, ⟨Is 65536 fun _ => 0, true⟩])) (by simp [ro_length])
  have hB3 := hA2 (ro (h ++ [⟨Ci m bx mx pl r, true⟩, ⟨Vs 16 fun _ => .slice none 0 0, true⟩])) (by simp [ro_length])
  have hB4 := hA3 (h ++ [⟨Ci m bx mx pl r, true⟩, ⟨Is 65536 fun _ => 0, true⟩, ⟨Vs 16 fun _ => .slice none 0 0, true⟩]) (by simp)
  have hB5 := hA3 (h ++ [⟨Ci m bx mx pl r, true⟩, ⟨Vs 16 fun _ => .slice none 0 0, true⟩, ⟨Is 65536 fun _ => 0, true⟩]) (by simp)
  (refine AC_begin (fun _ _ => Tryz.call14 _ _) Tryz.func14 rfl Tryz.ntmps14 Tryz.results14 (fun hwf => ?_); simp only [LCN, Nat.reduceAdd, Nat.reduceSub, List.replicate])
  (refine sW @hc (And.intro @cipI_ac @hi) ?_)
  refine WA_midG (fun s' => ∃ (H : List Blk) (cb pb : Nat) (g : Nat → Nat), Lay h H ⟨Ci m bx mx pl r, true⟩ cb (fun _ => 0) pb g (paLen m mx) (paN m mx) ∧ s' = ⟨[J, .int .i64 n, pt h.length 0, J, .int .i64 0, .int .i64 0, pt pb 0, sl cb 0 65536 1, J, J, J, J, J, J, J, J, J, J, J, J, J, J, J, J, J, J, J, J, J, J, J, J, J, J, J, J, J, J, J, J, J, J, J, J, J, J, J, J, J, J, J, J, J, J, J, J, J, J, J, J, J, J, J, J, J, J, J, J, J, J, J, J, J, J, J, J, J, J, J, J, J, J, J, J, J, J, J, J, J, J, J, J, J, J, J], H⟩) ?_ ?_
  · (repeat (first | ((first | (refine And.intro ?_ ?_; focus exact PLA) | ((first | with_reducible apply callB_i | with_reducible apply callK_intro | with_reducible apply callQ_i); (focus (first | assumption | ((first | with_reducible apply hB1 | with_reducible apply hB2 | with_reducible apply hB3 | with_reducible apply hB4 | with_reducible apply hB5) <;> (first | assumption | rfl | (simp (disch := omega) only [go_sem]; first | done | rfl) | omega | decide | (simp; done))))); (try exact WP_au)) | refine WA_seq (WA_region ?_) | refine WA_region ?_ | refine WA_exit ?_); try simp (maxSteps := 1000000) (disch := first | omega | rfl | decide | (simp only [LX] <;> omega)) only [go_sem, Nat.reduceAdd, Int.reduceAdd, Int.reduceSub, Int.reduceMul, BNS, tn]) | (refine (WA_rb (id := 5) [4, 7] (SubM.refl _) mixedOk ?_); simp only [LSZ]; (repeat' (first | ((first | (refine And.intro ?_ ?_; focus exact PLA) | ((first | with_reducible apply callB_i | with_reducible apply callK_intro | with_reducible apply callQ_i | with_reducible apply callC_i); (focus (first | assumption | ((first | with_reducible apply hB1 | with_reducible apply hB2 | with_reducible apply hB3 | with_reducible apply hB4 | with_reducible apply hB5) <;> (first | assumption | rfl | (simp (disch := omega) only [go_sem]; first | done | rfl) | omega | decide | (simp; done))))); (try (focus (first | assumption | exact NL.mk rfl))); (try exact WP_au)) | refine RTk false [0, 2] 7 ?_ | refine RTk true [1, 3] 5 ?_ | refine RB_threeC 4 5 6 _ (by rfl) (by decide +kernel) (by first | (simp only [go_sem]; done) | fail) (by first | (simp only [go_sem]; done) | fail) ?_ ?_ ?_ | refine RB_twoK 5 6 _ (by rfl) (by decide +kernel) (by first | (simp only [go_sem]; done) | fail) (by first | (simp only [go_sem]; done) | fail) ?_ ?_ | refine RB_keep 6 _ (by rfl) (by decide +kernel) (by first | (simp (disch := first | omega | decide) only [go_sem, List.getElem?_nil]; done) | fail) ?_ | refine REx 7 ?_ | refine RTk false [8] 0 ?_ | refine RB_done (by decide +kernel) ?_ | refine RB_twoK 5 7 _ (by rfl) (by decide +kernel) (by first | (simp (disch := first | omega | decide) only [go_sem, List.getElem?_nil, List.getElem?_cons_succ]; done) | fail) (by first | (simp (disch := first | omega | decide) only [go_sem, List.getElem?_nil, List.getElem?_cons_succ]; done) | fail) ?_ ?_ | refine RB_keep 5 _ (by rfl) (by decide +kernel) (by first | (simp (disch := first | omega | decide) only [go_sem, List.getElem?_nil]; done) | fail) ?_ | refine RB_twoC 4 6 _ (by rfl) (by decide +kernel) (by first | (simp only [go_sem]; done) | fail) ?_ ?_ | refine REx 4 ?_ | refine RB_twoC 4 5 _ (by rfl) (by decide +kernel) (by first | (simp only [go_sem]; done) | fail) ?_ ?_) <;> try simp (maxSteps := 1000000) (disch := first | omega | rfl | decide | (simp only [LX] <;> omega)) only [go_sem, Nat.reduceAdd, Int.reduceAdd, Int.reduceSub, Int.reduceMul, BNS, tn])))) | refine WA_seq ?_ | refine WA_block ?_ | (refine WA_skip ?_; try simp only [go_sem]) | (refine WA_ret ?_; try simp only [go_sem]) | refine WA_ct rfl ?_ | refine WA_cf rfl ?_))
    · refine ⟨_, ⟨_, _, _, _, lay_x (X := ⟨Ci m bx mx pl r, true⟩ :: (L1 ++ [⟨Is 65536 fun _ => 0, true⟩, ⟨Vs 16 fun j => sl (h.length + (1 + j)) 0 (paLen m mx j) 1, true⟩])) (L1.length + 1) (L1.length + 2) 1 rfl (get_mid (L := L1) 0 rfl) (get_mid (L := L1) 1 rfl) (fun j hj => by rw [Nat.add_comm 1 j, List.getElem?_cons_succ]; exact look_old (hR1 j hj) _) (by omega) (by omega) (fun j hj => by omega), rfl⟩, ?_⟩
      (exact sS0)
    · refine ⟨_, ⟨_, _, _, _, lay_x (X := ⟨Ci m bx mx pl r, true⟩ :: (L1 ++ [⟨Vs 16 fun j => sl (h.length + (1 + j)) 0 (paLen m mx j) 1, true⟩, ⟨Is 65536 fun _ => 0, true⟩])) (L1.length + 2) (L1.length + 1) 1 rfl (get_mid (L := L1) 1 rfl) (get_mid (L := L1) 0 rfl) (fun j hj => by rw [Nat.add_comm 1 j, List.getElem?_cons_succ]; exact look_old (hR1 j hj) _) (by omega) (by omega) (fun j hj => by omega), rfl⟩, ?_⟩
      (exact sS0)
    · refine ⟨_, ⟨_, _, _, _, lay_x (X := ⟨Ci m bx mx pl r, true⟩ :: (L1 ++ [⟨Vs 16 fun j => sl (h.length + (1 + j)) 0 (paLen m mx j) 1, true⟩, ⟨Is 65536 fun _ => 0, true⟩])) (L1.length + 2) (L1.length + 1) 1 rfl (get_mid (L := L1) 1 rfl) (get_mid (L := L1) 0 rfl) (fun j hj => by rw [Nat.add_comm 1 j, List.getElem?_cons_succ]; exact look_old (hR1 j hj) _) (by omega) (by omega) (fun j hj => by omega), rfl⟩, ?_⟩
      (exact sS0)
    · refine ⟨_, ⟨_, _, _, _, lay_x (X := ⟨Ci m bx mx pl r, true⟩ :: ⟨Is 65536 fun _ => 0, true⟩ :: (L2 ++ [⟨Vs 16 fun j => sl (h.length + (2 + j)) 0 (paLen m mx j) 1, true⟩])) (1) (L2.length + 2) 2 rfl (rfl) (get_mid (L := L2) 0 rfl) (fun j hj => by rw [Nat.add_comm 2 j, List.getElem?_cons_succ, List.getElem?_cons_succ]; exact look_old (hR2 j hj) _) (by omega) (by omega) (fun j hj => by omega), rfl⟩, ?_⟩
      (exact sS0)
    · refine ⟨_, ⟨_, _, _, _, lay_x (X := ⟨Ci m bx mx pl r, true⟩ :: ⟨Is 65536 fun _ => 0, true⟩ :: ⟨Vs 16 fun j => sl (h.length + (3 + j)) 0 (paLen m mx j) 1, true⟩ :: L3) (1) (2) 3 rfl (rfl) (rfl) (fun j hj => by rw [Nat.add_comm 3 j, List.getElem?_cons_succ, List.getElem?_cons_succ, List.getElem?_cons_succ]; exact hR3 j hj) (by omega) (by omega) (fun j hj => by omega), rfl⟩, ?_⟩
      (exact sS0)
    · refine ⟨_, ⟨_, _, _, _, lay_x (X := ⟨Ci m bx mx pl r, true⟩ :: ⟨Vs 16 fun j => sl (h.length + (2 + j)) 0 (paLen m mx j) 1, true⟩ :: (L2 ++ [⟨Is 65536 fun _ => 0, true⟩])) (L2.length + 2) (1) 2 rfl (get_mid (L := L2) 0 rfl) (rfl) (fun j hj => by rw [Nat.add_comm 2 j, List.getElem?_cons_succ, List.getElem?_cons_succ]; exact look_old (hR2 j hj) _) (by omega) (by omega) (fun j hj => by omega), rfl⟩, ?_⟩
      (exact sS0)
    · refine ⟨_, ⟨_, _, _, _, lay_x (X := ⟨Ci m bx mx pl r, true⟩ :: ⟨Vs 16 fun j => sl (h.length + (2 + j)) 0 (paLen m mx j) 1, true⟩ :: (L2 ++ [⟨Is 65536 fun _ => 0, true⟩])) (L2.length + 2) (1) 2 rfl (get_mid (L := L2) 0 rfl) (rfl) (fun j hj => by rw [Nat.add_comm 2 j, List.getElem?_cons_succ, List.getElem?_cons_succ]; exact look_old (hR2 j hj) _) (by omega) (by omega) (fun j hj => by omega), rfl⟩, ?_⟩
      (exact sS0)
    · refine ⟨_, ⟨_, _, _, _, lay_x (X := ⟨Ci m bx mx pl r, true⟩ :: ⟨Vs 16 fun j => sl (h.length + (3 + j)) 0 (paLen m mx j) 1, true⟩ :: ⟨Is 65536 fun _ => 0, true⟩ :: L3) (2) (1) 3 rfl (rfl) (rfl) (fun j hj => by rw [Nat.add_comm 3 j, List.getElem?_cons_succ, List.getElem?_cons_succ, List.getElem?_cons_succ]; exact hR3 j hj) (by omega) (by omega) (fun j hj => by omega), rfl⟩, ?_⟩
      (exact sS0)
  · rintro _ ⟨H, cb, pb, g, x, rfl⟩
    have hlen := x.le
    (refine sN0 ?_)
    refine WA_forX (fun k s' => ∃ (H : List Blk) (cb pb : Nat) (g : Nat → Nat), Lay h H ⟨Ci m bx mx pl r, true⟩ cb (onF k) pb g (paLen m mx) (paN m mx) ∧ s' = ⟨[J, .int .i64 n, pt h.length 0, J, .int .i64 0, .int .i64 0, pt pb 0, sl cb 0 65536 1, J, J, J, J, J, J, J, J, J, J, J, J, J, J, J, J, J, J, J, J, J, .int .i64 65536, .int .i64 k, J, J, J, J, J, J, J, J, J, J, J, J, J, J, J, J, J, J, J, J, J, J, J, J, J, J, J, J, J, J, J, J, J, J, J, J, J, J, J, J, J, J, J, J, J, J, J, J, J, J, J, J, J, J, J, J, J, J, J, J, J, J, J, J], H⟩) 65536 ?_ ?_ ?_
    · refine ⟨_, ⟨H, cb, pb, g, by rw [onF_zero]; exact x, rfl⟩, ?_⟩
      (exact sA0)
    · rintro k hk _ ⟨H, cb, pb, g, x, rfl⟩
      have hlen := x.le
      have hco := x.co
      (refine sW (And.intro @hco @onF_next) (ocU_ac hk) ?_)
      have hle2 := (x.set (onF (k + 1))).le
      refine ⟨_, ⟨_, cb, pb, g, x.set (onF (k + 1)), rfl⟩, ?_⟩
      (exact sA0)
    · rintro _ ⟨H, cb, pb, g, x, rfl⟩
      have hlen := x.le
      have hco := x.co
      (refine sN @hco ?_)
      have x2 := x.set st0
      rw [onF_all]
      generalize H.set cb ⟨Is 65536 st0, true⟩ = H2 at *
      have hlen := x2.le
      refine WA_forX (fun k s' => ∃ (H : List Blk) (cb pb : Nat) (g : Nat → Nat), Lay h H ⟨Ci m bx mx pl r, true⟩ cb (itI pl (paN m mx) (paLen m mx) k) pb g (paLen m mx) (paN m mx) ∧ s' = ⟨[J, .int .i64 n, pt h.length 0, J, .int .i64 0, .int .i64 0, pt pb 0, sl cb 0 65536 1, J, J, J, J, J, J, J, J, J, J, J, J, J, J, J, J, J, J, J, J, J, J, J, J, J, J, J, J, J, J, J, J, J, J, J, .int .i64 ((n - 1 : Nat) : Int), .int .i64 k, J, J, J, J, J, J, J, J, J, J, J, J, J, J, J, J, J, J, J, J, J, J, J, J, J, J, J, J, J, J, J, J, J, J, J, J, J, J, J, J, J, J, J, J, J, J, J, J, J, J], H⟩) (n - 1) ?_ ?_ ?_
      · refine ⟨_, ⟨H2, cb, pb, g, by rw [itI_zero]; exact x2, rfl⟩, ?_⟩
        (exact sA0)
      · rintro q hq _ ⟨H, cb, pb, g, x, rfl⟩
        have hci := x.ci
        have hbd := itI_bd hp (paN m mx) (paLen m mx) (show q ≤ 20 by omega)
        have hmb : ∀ t, t < 65536 → 0 ≤ mvC pl (itI pl (paN m mx) (paLen m mx) q) 1000 65536 t := fun t _ => mvC_bdI hbd t
        have hlen := x.le
        (refine sY @hci @rep1_ac ?_)
        refine WA_forP (fun k => [(10, J), (11, J), (50, .int .i64 k), (51, J), (52, J), (53, J), (54, J), (55, J), (56, J), (57, J), (58, J), (59, J), (60, J), (61, J), (62, J)]) (fun k => [(1, ⟨Is 65536 (mvC pl (itI pl (paN m mx) (paLen m mx) q) 1000 k), true⟩)]) (65536) ?_ ?_ ?_ <;> (try simp only [PTS])
        · rw [mvC_zero]
          (refine Drop_slots (by first | exact Nat.le_refl _ | (simp only [List.length_append, rowsH_len, List.length_cons, List.length_nil]; omega) | (simp only [List.length_append, rowsH_len, List.length_cons, List.length_nil, Nat.le_refl]; done)) ?_; focus ((try simp only [JL_same, JL_J, JL_nil, Int.reduceAdd, Nat.sub_sub, ICS, Bool.false_eq_true, if_false, if_true]); (try exact JL_refl _)))
        · intro s hs
          have hco0 := look_old x.co [⟨[.int .i64 1000], true⟩, ⟨Is 65536 (mvC pl (itI pl (paN m mx) (paLen m mx) q) 1000 s), true⟩]
          have hci0 := look_old x.ci [⟨[.int .i64 1000], true⟩, ⟨Is 65536 (mvC pl (itI pl (paN m mx) (paLen m mx) q) 1000 s), true⟩]
          have hm := mvM_lt pl s 16
          (refine sW (And.intro @hco0 (And.intro @hci0 @mvC_next)) (movI_ac pl hs) ?_)
          (refine Drop_slots (by first | exact Nat.le_refl _ | (simp only [List.length_append, rowsH_len, List.length_cons, List.length_nil]; omega) | (simp only [List.length_append, rowsH_len, List.length_cons, List.length_nil, Nat.le_refl]; done)) ?_; focus ((try simp only [JL_same, JL_J, JL_nil, Int.reduceAdd, Nat.sub_sub, ICS, Bool.false_eq_true, if_false, if_true]); (try exact JL_refl _)))
        · have x3 := x.ext (L := [⟨[.int .i64 1000], true⟩, ⟨Is 65536 (mvC pl (itI pl (paN m mx) (paLen m mx) q) 1000 65536), true⟩]) (k := 1) rfl
          have hlen := x3.le
          generalize hmv : mvC pl (itI pl (paN m mx) (paLen m mx) q) 1000 65536 = mv at *
          (refine sN0 ?_)
          refine WA_forX (fun c s' => ∃ (H : List Blk) (cb pb : Nat) (g : Nat → Nat), Lay h H ⟨Ci m bx mx pl r, true⟩ cb (colN (paN m mx) (paLen m mx) mv c) pb g (paLen m mx) (paN m mx) ∧ s' = ⟨[J, .int .i64 n, pt h.length 0, J, .int .i64 0, .int .i64 0, pt pb 0, J, J, sl cb 0 65536 1, J, J, J, J, J, J, J, J, J, J, J, J, J, J, J, J, J, J, J, J, J, J, J, J, J, J, J, J, J, J, J, J, J, .int .i64 ((n - 1 : Nat) : Int), .int .i64 q, J, J, J, J, J, J, J, J, J, J, J, J, J, J, J, J, J, J, .int .i64 c, J, J, J, J, J, J, J, J, J, J, J, J, J, J, J, J, J, J, J, J, J, J, J, J, J, J, J, J, J, J, J], H⟩) 4 ?_ ?_ ?_
          · refine ⟨_, ⟨_, _, pb, g, by rw [colN_zero]; exact x3, rfl⟩, ?_⟩
            (exact sA0)
          · rintro c hc _ ⟨H, cb, pb, g, x, rfl⟩
            have hsp := x.sp
            have hbec := bec_ac (c := c) hc x.row (paN_lt m mx) (paLen_le16 m mx) x.co (colN_bd hmb c)
            rw [colN_next] at hbec
            have x4 := x.ext (L := [⟨Vs 16 fun j => sl (g j) 0 (paLen m mx j) 1, true⟩, ⟨[.int .i64 1000], true⟩, ⟨Is 65536 (colN (paN m mx) (paLen m mx) mv (c + 1)), true⟩]) (k := 2) rfl
            have hlen := x4.le
            (refine sW @hsp @hbec ?_)
            refine ⟨_, ⟨_, _, pb, g, x4, rfl⟩, ?_⟩
            (exact sA0)
          · rintro _ ⟨H, cb, pb, g, x, rfl⟩
            have hlen := x.le
            have hv0 := colN_bd (F := paN m mx) (len := paLen m mx) hmb 4
            have hnx : ∀ i, i < 65536 → adI (colN (paN m mx) (paLen m mx) mv 4) 65536 i = itI pl (paN m mx) (paLen m mx) (q + 1) i := by rw [← hmv]; exact fun i hi => itI_next pl (paN m mx) (paLen m mx) q i hi
            generalize colN (paN m mx) (paLen m mx) mv 4 = v at *
            (refine sN0 ?_)
            refine WA_forX (fun k s' => ∃ (H : List Blk) (cb pb : Nat) (g : Nat → Nat), Lay h H ⟨Ci m bx mx pl r, true⟩ cb (adI v k) pb g (paLen m mx) (paN m mx) ∧ s' = ⟨[J, .int .i64 n, pt h.length 0, J, .int .i64 0, .int .i64 0, pt pb 0, J, J, sl cb 0 65536 1, J, J, J, J, J, J, J, J, J, J, J, J, J, J, J, J, J, J, J, J, J, J, J, J, J, J, J, J, J, J, J, J, J, .int .i64 ((n - 1 : Nat) : Int), .int .i64 q, J, J, J, J, J, J, J, J, J, J, J, J, J, J, J, J, J, J, J, J, J, J, J, J, J, J, J, .int .i64 65536, .int .i64 k, J, J, J, J, J, J, J, J, J, J, J, J, J, J, J, J, J, J, J, J, J], H⟩) 65536 ?_ ?_ ?_
            · refine ⟨_, ⟨_, _, pb, g, by rw [adI_zero]; exact x, rfl⟩, ?_⟩
              (exact sA0)
            · rintro s hs _ ⟨H, cb, pb, g, x, rfl⟩
              have hlen := x.le
              have hco := x.co
              by_cases hlt : v s < 1000
              · have hd : decide (v s < 1000) = true := decide_eq_true hlt
                have hpp := popP_le s 16
                have h0 := hv0 s hs
                have hwv := wrap_i64 (n := v s + ((popP s 16 : Nat) : Int)) (by omega) (by omega)
                have x5 := x.set (adI v (s + 1))
                have hlen2 := x5.le
                (repeat (first | ((first | (refine And.intro ?_ ?_; focus exact PLA) | ((first | with_reducible apply callB_i | with_reducible apply callK_intro | with_reducible apply callQ_i); (focus (first | assumption | (with_reducible apply ocU_ac hs <;> (first | assumption | rfl | (simp (disch := omega) only [go_sem]; first | done | rfl) | omega | decide | (simp; done))))); (try exact WP_au)) | refine WA_seq (WA_region ?_) | refine WA_region ?_ | refine WA_exit ?_); try simp (maxSteps := 1000000) (disch := first | omega | rfl | decide | (simp only [LX] <;> omega)) only [go_sem, Nat.reduceAdd, Int.reduceAdd, Int.reduceSub, Int.reduceMul, BNS, hco, adI_at, hd, hwv, adI_next hlt]) | (refine (WA_rb (id := 29) [9] (SubM.refl _) mixedOk ?_); simp only [LSZ]; (repeat (first | ((first | (refine And.intro ?_ ?_; focus exact PLA) | ((first | with_reducible apply callB_i | with_reducible apply callK_intro | with_reducible apply callQ_i); (focus (first | assumption | (with_reducible apply ocU_ac hs <;> (first | assumption | rfl | (simp (disch := omega) only [go_sem]; first | done | rfl) | omega | decide | (simp; done))))); (try exact WP_au)) | refine RTk false [0, 1, 2, 4, 5] 5 ?_ | refine RTk true [3, 6] 3 ?_ | refine RTk false [7, 8] 1 ?_ | refine REx 9 ?_ | refine RB_done (by decide +kernel) ?_); try simp (maxSteps := 1000000) (disch := first | omega | rfl | decide | (simp only [LX] <;> omega)) only [go_sem, Nat.reduceAdd, Int.reduceAdd, Int.reduceSub, Int.reduceMul, BNS, hco, adI_at, hd, hwv, adI_next hlt])))) | refine WA_seq ?_ | refine WA_block ?_ | (refine WA_skip ?_; try simp only [go_sem]) | (refine WA_ret ?_; try simp only [go_sem]) | refine WA_ct rfl ?_ | refine WA_cf rfl ?_))
                refine ⟨_, ⟨_, cb, pb, g, x5, rfl⟩, ?_⟩
                (exact sA0)
              · have hd : decide (v s < 1000) = false := decide_eq_false hlt
                have x5 := x
                rw [adI_skip hlt] at x5
                (refine sN (And.intro @hco (And.intro @adI_at @hd)) ?_)
                refine ⟨_, ⟨_, cb, pb, g, x5, rfl⟩, ?_⟩
                (exact sA0)
            · rintro _ ⟨H, cb, pb, g, x, rfl⟩
              have x6 := x.congr hnx
              have hlen := x6.le
              (refine sN0 ?_)
              refine ⟨_, ⟨_, cb, pb, g, x6, rfl⟩, ?_⟩
              (exact sA0)
      · rintro _ ⟨H, cb, pb, g, x, rfl⟩
        have hlen := x.le
        have hmin : AC Tryz.prog 44 [sl cb 0 65536 1] H (.int .i64 (mnF (itI pl (paN m mx) (paLen m mx) (n - 1)) 65535)) H := minI_ac (n := 65535) x.co (by omega)
        obtain ⟨A, hA⟩ := x.app
        (refine sW0 @hmin ?_)
        rw [hA]
        (exact sR0)

end Go.Proofs.YtenkjbkcdcionaaGreat
/- Least activity: the law. -/
namespace Go.Proofs.YtenkjbkcdcionaaGreat
set_option linter.unusedSimpArgs false
set_option linter.unusedVariables false
set_option maxRecDepth 20000
set_option maxHeartbeats 1000000
open Go.Abs

theorem least_eq {pl : Nat → UInt8} (hp : plOk pl = true) (F : Nat → Nat → Nat) (len : Nat → Nat) {r : Nat} (hr : r ≤ 20) : lsF (itS pl F len r) 65536 = mnF (itI pl F len r) 65535 := lsF_cap (n := 65535) (it_cap hp F len r hr)
attribute [local irreducible] lsF mnF itS itI paN paLen
end Go.Proofs.YtenkjbkcdcionaaGreat
/- PairsInByte. -/
namespace Go.Proofs.YtenkjbkcdcionaaGreat
set_option linter.unusedSimpArgs false
set_option linter.unusedVariables false
set_option maxRecDepth 20000
set_option maxHeartbeats 1000000
open Go.Abs

def blkP (b : Nat → UInt8) (i : Nat) : Nat → Nat → UInt8
  | 0 => b
  | k + 1 => upd b i (UInt8.ofNat k)
theorem blkP_set (b : Nat → UInt8) (i k : Nat) : upd (blkP b i k) i (UInt8.ofNat k) = blkP b i (k + 1) := by
  cases k with
  | zero => rfl
  | succ k => exact upd_upd b i _ _
def pairH (g : (Nat → UInt8) → Nat → UInt8) (b d e : Nat → UInt8) (i k : Nat) : Bool := eqB 16 (xorF (g (blkP b i (k + 1))) (g (xorF (blkP b i (k + 1)) d))) e
def cntP (p : Nat → Bool) : Nat → Nat
  | 0 => 0
  | k + 1 => if p k then cntP p k + 1 else cntP p k
theorem cntP_t {p : Nat → Bool} {k : Nat} (h : p k = true) : cntP p (k + 1) = cntP p k + 1 := by rw [cntP, if_pos h]
theorem cntP_f {p : Nat → Bool} {k : Nat} (h : p k = false) : cntP p (k + 1) = cntP p k := by rw [cntP, h]; rfl
theorem cntP_le (p : Nat → Bool) : ∀ k, cntP p k ≤ k
  | 0 => Nat.le_refl 0
  | k + 1 => by have := cntP_le p k; unfold cntP; split <;> omega
def pairF (m : Nat) (bx mx pl y b d e : Nat → UInt8) (n i : Nat) : Nat → Bool := pairH (fun s => encF m bx mx pl y s n) b d e i
theorem inR_nat0 {i a : Int} (h : inR i 0 a = true) : ∃ k : Nat, i = k ∧ (k : Int) ≤ a := by
  unfold inR at h
  simp only [Bool.and_eq_true, decide_eq_true_eq] at h
  exact ⟨i.toNat, by omega, by omega⟩

theorem pairS_no {m r : Int} {bx mx pl : Nat → UInt8} (hc : cipB m bx mx pl r = false) (y b d e : Nat → UInt8) (i n : Int) (h : List Blk) :
    AC Tryz.prog 22 [.agg (Ci m bx mx pl r).toArray, .agg (Bs 16 y).toArray, .agg (Bs 16 b).toArray, .int .i64 i, .agg (Bs 16 d).toArray, .agg (Bs 16 e).toArray, .int .i64 n] h (.tuple #[.int .i64 0, .int .i64 1]) h := by
  have hk := codeS_ac m bx mx pl r n
  rw [codeN_bad hc n] at hk
  (refine AC_begin (fun _ _ => Tryz.call22 _ _) Tryz.func22 rfl Tryz.ntmps22 Tryz.results22 (fun hwf => ?_); simp only [LCN, Nat.reduceAdd, Nat.reduceSub, List.replicate])
  (refine sW (And.intro (show ((1 : Int) != 0) = true from rfl) (@yieldA_at 2 24)) @hk ?_)
  (exact sR0)
theorem pairS_out {m r : Int} {bx mx pl : Nat → UInt8} (hc : cipB m bx mx pl r = true) (y b d e : Nat → UInt8) {i n : Int} (ho : (inR n 0 r && inR i 0 15) = false) (h : List Blk) :
    AC Tryz.prog 22 [.agg (Ci m bx mx pl r).toArray, .agg (Bs 16 y).toArray, .agg (Bs 16 b).toArray, .int .i64 i, .agg (Bs 16 d).toArray, .agg (Bs 16 e).toArray, .int .i64 n] h (.tuple #[.int .i64 0, .int .i64 2]) h := by
  have hk := codeS_ac m bx mx pl r n
  have hi := inS_ac i 0 15
  cases h1 : inR n 0 r
  · rw [codeN_out hc h1] at hk
    cases h2 : inR i 0 15 <;> rw [h2] at hi <;>
    · (refine AC_begin (fun _ _ => Tryz.call22 _ _) Tryz.func22 rfl Tryz.ntmps22 Tryz.results22 (fun hwf => ?_); simp only [LCN, Nat.reduceAdd, Nat.reduceSub, List.replicate])
      (refine sW (And.intro (show ((2 : Int) != 1) = true from rfl) (And.intro (show ((2 : Int) != 0) = true from rfl) (@yieldA_at 2 24))) (And.intro @hk @hi) ?_)
      (exact sR0)
  · have h2 : inR i 0 15 = false := by rw [h1, Bool.true_and] at ho; exact ho
    rw [codeN_ok hc h1] at hk
    rw [h2] at hi
    (refine AC_begin (fun _ _ => Tryz.call22 _ _) Tryz.func22 rfl Tryz.ntmps22 Tryz.results22 (fun hwf => ?_); simp only [LCN, Nat.reduceAdd, Nat.reduceSub, List.replicate])
    (refine sW (And.intro (show ((0 : Int) != 1) = true from rfl) (And.intro (show ((2 : Int) != 0) = true from rfl) (@yieldA_at 2 24))) (And.intro @hk @hi) ?_)
    (exact sR0)
theorem pairS_ok {m n i : Nat} {r : Int} (h0 : 256 ≤ m) (h1 : m < 512) {bx mx pl : Nat → UInt8} (hc : cipB m bx mx pl r = true) (hp : plOk pl = true) (y b d e : Nat → UInt8) (hr : inR n 0 r = true) (hi : inR i 0 15 = true) (hn : n ≤ 20) (hi2 : i < 16) (h : List Blk) :
    AC Tryz.prog 22 [.agg (Ci m bx mx pl r).toArray, .agg (Bs 16 y).toArray, .agg (Bs 16 b).toArray, .int .i64 i, .agg (Bs 16 d).toArray, .agg (Bs 16 e).toArray, .int .i64 n] h (.tuple #[.int .i64 ((cntP (pairF m bx mx pl y b d e n i) 256 : Nat) : Int), .int .i64 0]) h := by
  have hk := codeS_ac m bx mx pl r n
  rw [codeN_ok hc hr] at hk
  have hin := inS_ac i 0 15
  rw [hi] at hin
  have hp' : ∀ i, i < 16 → (pl i).toNat < 16 := fun i hi => plOk_lt hp hi
  have hn2 : n ≤ 1000 := by omega
  (refine AC_begin (fun _ _ => Tryz.call22 _ _) Tryz.func22 rfl Tryz.ntmps22 Tryz.results22 (fun hwf => ?_); simp only [LCN, Nat.reduceAdd, Nat.reduceSub, List.replicate])
  (refine sW (And.intro (show ((0 : Int) != 1) = true from rfl) (@yieldA_at 2 24)) (And.intro @hk @hin) ?_)
  refine WA_forP (fun k => [(17, .int .i64 ((cntP (pairF m bx mx pl y b d e n i) k : Nat) : Int)), (18, .int .i64 k), (32, J), (33, J), (34, J), (35, J), (36, J), (37, J), (38, J), (39, J), (40, J), (41, J), (42, J), (43, J), (44, J), (45, J), (46, J), (47, J), (48, J), (49, J), (50, J), (51, J), (52, J), (53, J), (54, J), (55, J), (56, J)]) (fun k => [(2, ⟨Bs 16 (blkP b i k), true⟩)]) (256) ?_ ?_ ?_ <;> (try simp only [PTS])
  · rw [show blkP b i 0 = b from rfl]
    (exact sS0)
  · intro j hj
    have hle := cntP_le (pairF m bx mx pl y b d e n i) j
    cases hh : pairF m bx mx pl y b d e n i j
    · have hh2 : eqB 16 (xorF (encF m bx mx pl y (blkP b i (j + 1)) n) (encF m bx mx pl y (xorF (blkP b i (j + 1)) d) n)) e = false := hh
      (repeat (first | ((first | (refine And.intro ?_ ?_; focus exact PLA) | ((first | with_reducible apply callB_i | with_reducible apply callK_intro | with_reducible apply callQ_i); (focus (first | assumption | ((first | with_reducible apply encS_ac h0 h1 _ _ _ hp' _ _ hn2 | with_reducible apply xor16S_ac) <;> (first | assumption | rfl | (simp (disch := omega) only [go_sem]; first | done | rfl) | omega | decide | (simp; done))))); (try exact WP_au)) | refine WA_seq (WA_region ?_) | refine WA_region ?_ | refine WA_exit ?_); try simp (maxSteps := 1000000) (disch := first | omega | rfl | decide | (simp only [LX] <;> omega)) only [go_sem, Nat.reduceAdd, Int.reduceAdd, Int.reduceSub, Int.reduceMul, BNS, blkP_set, hh2, yieldA_at 2 24]) | (refine WA_seq (WA_draw (id := 11) mixedOk (by kernel_rfl) ?_); simp (maxSteps := 1000000) (disch := first | omega | rfl | decide | (simp only [LX] <;> omega)) only [go_sem, Nat.reduceAdd, Int.reduceAdd, Int.reduceSub, Int.reduceMul, BNS, blkP_set, hh2, yieldA_at 2 24]) | (refine WA_draw (id := 11) mixedOk (by kernel_rfl) ?_; simp (maxSteps := 1000000) (disch := first | omega | rfl | decide | (simp only [LX] <;> omega)) only [go_sem, Nat.reduceAdd, Int.reduceAdd, Int.reduceSub, Int.reduceMul, BNS, blkP_set, hh2, yieldA_at 2 24]) | refine WA_seq ?_ | refine WA_block ?_ | (refine WA_skip ?_; try simp only [go_sem]) | (refine WA_ret ?_; try simp only [go_sem]) | refine WA_ct rfl ?_ | refine WA_cf rfl ?_))
      (exact sS (cntP_f hh))
    · have hh2 : eqB 16 (xorF (encF m bx mx pl y (blkP b i (j + 1)) n) (encF m bx mx pl y (xorF (blkP b i (j + 1)) d) n)) e = true := hh
      (repeat (first | ((first | (refine And.intro ?_ ?_; focus exact PLA) | ((first | with_reducible apply callB_i | with_reducible apply callK_intro | with_reducible apply callQ_i); (focus (first | assumption | ((first | with_reducible apply encS_ac h0 h1 _ _ _ hp' _ _ hn2 | with_reducible apply xor16S_ac) <;> (first | assumption | rfl | (simp (disch := omega) only [go_sem]; first | done | rfl) | omega | decide | (simp; done))))); (try exact WP_au)) | refine WA_seq (WA_region ?_) | refine WA_region ?_ | refine WA_exit ?_); try simp (maxSteps := 1000000) (disch := first | omega | rfl | decide | (simp only [LX] <;> omega)) only [go_sem, Nat.reduceAdd, Int.reduceAdd, Int.reduceSub, Int.reduceMul, BNS, blkP_set, hh2, yieldA_at 2 24]) | (refine WA_seq (WA_draw (id := 11) mixedOk (by kernel_rfl) ?_); simp (maxSteps := 1000000) (disch := first | omega | rfl | decide | (simp only [LX] <;> omega)) only [go_sem, Nat.reduceAdd, Int.reduceAdd, Int.reduceSub, Int.reduceMul, BNS, blkP_set, hh2, yieldA_at 2 24]) | (refine WA_draw (id := 11) mixedOk (by kernel_rfl) ?_; simp (maxSteps := 1000000) (disch := first | omega | rfl | decide | (simp only [LX] <;> omega)) only [go_sem, Nat.reduceAdd, Int.reduceAdd, Int.reduceSub, Int.reduceMul, BNS, blkP_set, hh2, yieldA_at 2 24]) | refine WA_seq ?_ | refine WA_block ?_ | (refine WA_skip ?_; try simp only [go_sem]) | (refine WA_ret ?_; try simp only [go_sem]) | refine WA_ct rfl ?_ | refine WA_cf rfl ?_))
      (exact sS (cntP_t hh))
  · (refine sN (@yieldA_at 2 24) ?_)
    (exact sR0)

theorem pairI_no {m r : Int} {bx mx pl : Nat → UInt8} (hc : cipB m bx mx pl r = false) (y b d e : Nat → UInt8) (i n : Int) (h : List Blk) :
    AC Tryz.prog 21 [.agg (Ci m bx mx pl r).toArray, .agg (Bs 16 y).toArray, .agg (Bs 16 b).toArray, .int .i64 i, .agg (Bs 16 d).toArray, .agg (Bs 16 e).toArray, .int .i64 n] h (.tuple #[.int .i64 0, .int .i64 1]) h := by
  have hk := codeI_ac m bx mx pl r n
  rw [codeN_bad hc n] at hk
  (refine AC_begin (fun _ _ => Tryz.call21 _ _) Tryz.func21 rfl Tryz.ntmps21 Tryz.results21 (fun hwf => ?_); simp only [LCN, Nat.reduceAdd, Nat.reduceSub, List.replicate])
  (refine sW (show ((1 : Int) != 0) = true from rfl) @hk ?_)
  (exact sR0)
theorem pairI_out {m r : Int} {bx mx pl : Nat → UInt8} (hc : cipB m bx mx pl r = true) (y b d e : Nat → UInt8) {i n : Int} (ho : (inR n 0 r && inR i 0 15) = false) (h : List Blk) :
    AC Tryz.prog 21 [.agg (Ci m bx mx pl r).toArray, .agg (Bs 16 y).toArray, .agg (Bs 16 b).toArray, .int .i64 i, .agg (Bs 16 d).toArray, .agg (Bs 16 e).toArray, .int .i64 n] h (.tuple #[.int .i64 0, .int .i64 2]) h := by
  have hk := codeI_ac m bx mx pl r n
  have hi := inI_ac i 0 15
  cases h1 : inR n 0 r
  · rw [codeN_out hc h1] at hk
    (refine AC_begin (fun _ _ => Tryz.call21 _ _) Tryz.func21 rfl Tryz.ntmps21 Tryz.results21 (fun hwf => ?_); simp only [LCN, Nat.reduceAdd, Nat.reduceSub, List.replicate])
    (refine sW (show ((2 : Int) != 0) = true from rfl) @hk ?_)
    (exact sR0)
  · have h2 : inR i 0 15 = false := by rw [h1, Bool.true_and] at ho; exact ho
    rw [codeN_ok hc h1] at hk
    rw [h2] at hi
    (refine AC_begin (fun _ _ => Tryz.call21 _ _) Tryz.func21 rfl Tryz.ntmps21 Tryz.results21 (fun hwf => ?_); simp only [LCN, Nat.reduceAdd, Nat.reduceSub, List.replicate])
    (refine sW0 (And.intro @hk @hi) ?_)
    (exact sR0)
theorem pairI_ok {m n i : Nat} {r : Int} (h0 : 256 ≤ m) (h1 : m < 512) {bx mx pl : Nat → UInt8} (hc : cipB m bx mx pl r = true) (hp : plOk pl = true) (y b d e : Nat → UInt8) (hr : inR n 0 r = true) (hi : inR i 0 15 = true) (hn : n ≤ 20) (hi2 : i < 16) (h : List Blk) :
    AC Tryz.prog 21 [.agg (Ci m bx mx pl r).toArray, .agg (Bs 16 y).toArray, .agg (Bs 16 b).toArray, .int .i64 i, .agg (Bs 16 d).toArray, .agg (Bs 16 e).toArray, .int .i64 n] h (.tuple #[.int .i64 ((cntP (pairF m bx mx pl y b d e n i) 256 : Nat) : Int), .int .i64 0]) h := by
  have hk := codeI_ac m bx mx pl r n
  rw [codeN_ok hc hr] at hk
  have hin := inI_ac i 0 15
  rw [hi] at hin
  have hp' : ∀ i, i < 16 → (pl i).toNat < 16 := fun i hi => plOk_lt hp hi
  have hn2 : n ≤ 1000 := by omega
  (refine AC_begin (fun _ _ => Tryz.call21 _ _) Tryz.func21 rfl Tryz.ntmps21 Tryz.results21 (fun hwf => ?_); simp only [LCN, Nat.reduceAdd, Nat.reduceSub, List.replicate])
  (repeat (first | ((first | (refine And.intro ?_ ?_; focus exact PLA) | ((first | with_reducible apply callB_i | with_reducible apply callK_intro | with_reducible apply callQ_i); (focus (first | assumption | ((first | with_reducible apply hk | with_reducible apply hin | with_reducible apply newEngine_ac h0 h1 _ _ hp) <;> (first | assumption | rfl | (simp (disch := omega) only [go_sem]; first | done | rfl) | omega | decide | (simp; done))) | (with_reducible apply keysI_ac <;> (first | assumption | (refine look_old ?_ _; assumption) | rfl | (simp (disch := omega) only [go_sem]; first | done | rfl) | omega | decide | (simp; done))))); (try exact WP_au)) | refine WA_seq (WA_region ?_) | refine WA_region ?_ | refine WA_exit ?_); try simp (maxSteps := 1000000) (disch := first | omega | rfl | decide | (simp only [LX] <;> omega)) only [go_sem, Nat.reduceAdd, Int.reduceAdd, Int.reduceSub, Int.reduceMul, BNS, bne_self_eq_false, Bool.not_true]) | refine WA_seq ?_ | refine WA_block ?_ | (refine WA_skip ?_; try simp only [go_sem]) | (refine WA_ret ?_; try simp only [go_sem]) | refine WA_ct rfl ?_ | refine WA_cf rfl ?_))
  refine WA_forP (fun k => [(18, .int .i64 ((cntP (pairF m bx mx pl y b d e n i) k : Nat) : Int)), (20, J), (38, .int .i64 k), (39, J), (40, J), (41, J), (42, J), (43, J), (44, J), (45, J), (46, J), (47, J), (48, J), (49, J), (50, J), (51, J), (52, J), (53, J), (54, J), (55, J), (56, J), (57, J), (58, J), (59, J), (60, J)]) (fun k => [(2, ⟨Bs 16 (blkP b i k), true⟩)]) (256) ?_ ?_ ?_ <;> (try simp only [PTS])
  · rw [show blkP b i 0 = b from rfl]
    (refine Drop_slots (by first | exact Nat.le_refl _ | simp) ?_; focus ((try simp only [JL_same, JL_J, JL_nil, Int.reduceAdd, Nat.sub_sub, ICS, Bool.false_eq_true, if_false, if_true]); (try exact JL_refl _)))
  · intro j hj
    have hle := cntP_le (pairF m bx mx pl y b d e n i) j
    cases hh : pairF m bx mx pl y b d e n i j
    · have hh2 : eqB 16 (xorF (encF m bx mx pl y (blkP b i (j + 1)) n) (encF m bx mx pl y (xorF (blkP b i (j + 1)) d) n)) e = false := hh
      (repeat (first | ((first | (refine And.intro ?_ ?_; focus exact PLA) | ((first | with_reducible apply callB_i | with_reducible apply callK_intro | with_reducible apply callQ_i); (focus (first | assumption | (with_reducible apply xor16I_ac <;> (first | assumption | rfl | (simp (disch := omega) only [go_sem]; first | done | rfl) | omega | decide | (simp; done))) | (with_reducible apply encI_ac <;> (first | assumption | (refine look_old ?_ _; assumption) | rfl | (simp (disch := omega) only [go_sem]; first | done | rfl) | omega | decide | (simp; done))))); (try exact WP_au)) | refine WA_seq (WA_region ?_) | refine WA_region ?_ | refine WA_exit ?_); try simp (maxSteps := 1000000) (disch := first | omega | rfl | decide | (simp only [LX] <;> omega)) only [go_sem, Nat.reduceAdd, Int.reduceAdd, Int.reduceSub, Int.reduceMul, BNS, blkP_set, hh2]) | (refine WA_seq (WA_draw (id := 12) mixedOk (by kernel_rfl) ?_); simp (maxSteps := 1000000) (disch := first | omega | rfl | decide | (simp only [LX] <;> omega)) only [go_sem, Nat.reduceAdd, Int.reduceAdd, Int.reduceSub, Int.reduceMul, BNS, blkP_set, hh2]) | (refine WA_draw (id := 12) mixedOk (by kernel_rfl) ?_; simp (maxSteps := 1000000) (disch := first | omega | rfl | decide | (simp only [LX] <;> omega)) only [go_sem, Nat.reduceAdd, Int.reduceAdd, Int.reduceSub, Int.reduceMul, BNS, blkP_set, hh2]) | refine WA_seq ?_ | refine WA_block ?_ | (refine WA_skip ?_; try simp only [go_sem]) | (refine WA_ret ?_; try simp only [go_sem]) | refine WA_ct rfl ?_ | refine WA_cf rfl ?_))
      (refine Drop_slots (by first | exact Nat.le_refl _ | simp) ?_; focus ((try simp only [JL_same, JL_J, JL_nil, Int.reduceAdd, Nat.sub_sub, ICS, Bool.false_eq_true, if_false, if_true, cntP_f hh]); (try exact JL_refl _)))
    · have hh2 : eqB 16 (xorF (encF m bx mx pl y (blkP b i (j + 1)) n) (encF m bx mx pl y (xorF (blkP b i (j + 1)) d) n)) e = true := hh
      (repeat (first | ((first | (refine And.intro ?_ ?_; focus exact PLA) | ((first | with_reducible apply callB_i | with_reducible apply callK_intro | with_reducible apply callQ_i); (focus (first | assumption | (with_reducible apply xor16I_ac <;> (first | assumption | rfl | (simp (disch := omega) only [go_sem]; first | done | rfl) | omega | decide | (simp; done))) | (with_reducible apply encI_ac <;> (first | assumption | (refine look_old ?_ _; assumption) | rfl | (simp (disch := omega) only [go_sem]; first | done | rfl) | omega | decide | (simp; done))))); (try exact WP_au)) | refine WA_seq (WA_region ?_) | refine WA_region ?_ | refine WA_exit ?_); try simp (maxSteps := 1000000) (disch := first | omega | rfl | decide | (simp only [LX] <;> omega)) only [go_sem, Nat.reduceAdd, Int.reduceAdd, Int.reduceSub, Int.reduceMul, BNS, blkP_set, hh2]) | (refine WA_seq (WA_draw (id := 12) mixedOk (by kernel_rfl) ?_); simp (maxSteps := 1000000) (disch := first | omega | rfl | decide | (simp only [LX] <;> omega)) only [go_sem, Nat.reduceAdd, Int.reduceAdd, Int.reduceSub, Int.reduceMul, BNS, blkP_set, hh2]) | (refine WA_draw (id := 12) mixedOk (by kernel_rfl) ?_; simp (maxSteps := 1000000) (disch := first | omega | rfl | decide | (simp only [LX] <;> omega)) only [go_sem, Nat.reduceAdd, Int.reduceAdd, Int.reduceSub, Int.reduceMul, BNS, blkP_set, hh2]) | refine WA_seq ?_ | refine WA_block ?_ | (refine WA_skip ?_; try simp only [go_sem]) | (refine WA_ret ?_; try simp only [go_sem]) | refine WA_ct rfl ?_ | refine WA_cf rfl ?_))
      (refine Drop_slots (by first | exact Nat.le_refl _ | simp) ?_; focus ((try simp only [JL_same, JL_J, JL_nil, Int.reduceAdd, Nat.sub_sub, ICS, Bool.false_eq_true, if_false, if_true, cntP_t hh]); (try exact JL_refl _)))
  · (repeat (first | ((first | (refine And.intro ?_ ?_; focus exact PLA) | refine WA_seq (WA_region ?_) | refine WA_region ?_ | refine WA_exit ?_); try simp (maxSteps := 1000000) (disch := first | omega | rfl | decide | (simp only [LX] <;> omega)) only [go_sem, Nat.reduceAdd, Int.reduceAdd, Int.reduceSub, Int.reduceMul, BNS]) | refine WA_seq ?_ | refine WA_block ?_ | (refine WA_skip ?_; try simp only [go_sem]) | (refine WA_ret ?_; try simp only [go_sem]) | refine WA_ct rfl ?_ | refine WA_cf rfl ?_))
    ((first | refine ret_nA ?_ | refine ret_sA ?_ | refine ret_fA ?_); simp (maxSteps := 1000000) (disch := first | omega | rfl | decide | (simp only [LX] <;> omega)) only [go_sem, Nat.reduceAdd, Int.reduceAdd, Int.reduceSub, Int.reduceMul, BNS]; try rfl)

end Go.Proofs.YtenkjbkcdcionaaGreat
/- One active byte through one round: pairs are counts of differences. Plain. -/
namespace Go.Proofs.YtenkjbkcdcionaaGreat
set_option linter.unusedSimpArgs false
set_option linter.unusedVariables false
set_option maxRecDepth 20000
set_option maxHeartbeats 1000000
open Go.Abs

theorem cntP_range (p : Nat → Bool) : ∀ n, cntP p n = (List.range n).countP p
  | 0 => rfl
  | n + 1 => by
    rw [List.range_succ, List.countP_append, ← cntP_range p n]
    cases h : p n
    · rw [cntP_f h]; simp [h]
    · rw [cntP_t h]; simp [h]
theorem difP_cnt (bx : Nat → UInt8) (d : UInt8) (y : Nat) : ∀ n, difP bx d n y = cntP (fun k => (diA bx d k).toNat == y) n
  | 0 => rfl
  | n + 1 => by
    have ih := difP_cnt bx d y n
    by_cases h : (diA bx d n).toNat = y
    · rw [cntP_t (by simpa using h), ← ih]
      subst h
      simp [difP, upd]
    · rw [cntP_f (by simpa using h), ← ih]
      have h' : ¬ y = (diA bx d n).toNat := fun e => h e.symm
      simp [difP, upd, h']
theorem dif_some (bx : Nat → UInt8) (d : UInt8) : 1 ≤ difP bx d 256 (bestP (difP bx d 256) 255) := by
  have h1 := bestP_max (difP bx d 256) 255 (diA bx d 255).toNat (by have := u8_lt (diA bx d 255); omega)
  have h2 : difP bx d 256 (diA bx d 255).toNat = difP bx d 255 (diA bx d 255).toNat + 1 := by
    show upd (difP bx d 255) (diA bx d 255).toNat (difP bx d 255 (diA bx d 255).toNat + 1) (diA bx d 255).toNat = _
    simp [upd]
  omega
theorem diA_zero (bx : Nat → UInt8) {k : Nat} (hk : k < 256) : diA bx 0 k = 0 := by
  unfold diA
  rw [UInt8.xor_zero, UInt8.toNat_ofNat', Nat.mod_eq_of_lt hk, UInt8.xor_self]
theorem dif_zero (bx : Nat → UInt8) : ∀ n, n ≤ 256 → difP bx 0 n 0 = n ∧ ∀ y, y ≠ 0 → difP bx 0 n y = 0
  | 0, _ => ⟨rfl, fun _ _ => rfl⟩
  | n + 1, hn => by
    obtain ⟨h1, h2⟩ := dif_zero bx n (by omega)
    have e := diA_zero bx (k := n) (by omega)
    constructor
    · show upd (difP bx 0 n) (diA bx 0 n).toNat (difP bx 0 n (diA bx 0 n).toNat + 1) 0 = n + 1
      rw [e]; simp [upd, h1]
    · intro y hy
      show upd (difP bx 0 n) (diA bx 0 n).toNat (difP bx 0 n (diA bx 0 n).toNat + 1) y = 0
      rw [e]; simp [upd, hy, h2 y hy]
theorem best_zero (bx : Nat → UInt8) : bestP (difP bx 0 256) 255 = 0 := by
  obtain ⟨h1, h2⟩ := dif_zero bx 256 (Nat.le_refl _)
  have h3 := bestP_max (difP bx 0 256) 255 0 (Nat.zero_le _)
  refine Classical.byContradiction fun hne => ?_
  rw [h2 _ hne] at h3
  omega
theorem bs_nat (bx d : Nat → UInt8) (i : Nat) : (bsF bx d i).toNat = bestP (difP bx (d i) 256) 255 := by
  unfold bsF
  rw [UInt8.toNat_ofNat']
  exact Nat.mod_eq_of_lt (Nat.lt_of_le_of_lt (bestP_le _ 255) (by omega))
theorem bs_zero (bx d : Nat → UInt8) {i : Nat} (h : d i = 0) : bsF bx d i = 0 := by
  unfold bsF; rw [h, best_zero]; rfl
end Go.Proofs.YtenkjbkcdcionaaGreat
/- Trails and least activity: a trail of best steps has at least as many active bytes as the least activity; n rounds cost at least n. Plain. -/
namespace Go.Proofs.YtenkjbkcdcionaaGreat
set_option linter.unusedSimpArgs false
set_option linter.unusedVariables false
set_option maxRecDepth 20000
set_option maxHeartbeats 1000000
open Go.Abs

theorem wrR_get {ix : Nat → Nat} {v f : Nat → Int} {t : Nat} : ∀ {n : Nat}, (∃ s, s < n ∧ ix s = t) → ∃ s, s < n ∧ ix s = t ∧ wrR ix v f n t = v s
  | 0, ⟨s, h, _⟩ => absurd h (Nat.not_lt_zero s)
  | n + 1, ⟨s, h, e⟩ => by
    by_cases hn : t = ix n
    · refine ⟨n, by omega, hn.symm, ?_⟩
      show upd _ _ _ t = _
      unfold upd; rw [if_pos hn]
    · obtain ⟨s', h1, h2, h3⟩ := wrR_get (n := n) (v := v) (f := f) ⟨s, by
        have : s ≠ n := fun e2 => hn (by rw [← e2]; exact e.symm)
        omega, e⟩
      refine ⟨s', by omega, h2, ?_⟩
      show upd _ _ _ t = _
      unfold upd; rw [if_neg hn]; exact h3
theorem bits_top {s : Nat} (hs : s < 65536) {i : Nat} (hi : 16 ≤ i) : s.testBit i = false :=
  Nat.testBit_lt_two_pow (Nat.lt_of_lt_of_le hs (show 2 ^ 16 ≤ 2 ^ i from Nat.pow_le_pow_right (by omega) hi))
theorem mvM_inj {pl : Nat → UInt8} (hp : plOk pl = true) {s t : Nat} (hs : s < 65536) (ht : t < 65536) (h : mvM pl s 16 = mvM pl t 16) : s = t := by
  refine Nat.eq_of_testBit_eq fun i => ?_
  by_cases hi : i < 16
  · have hlt := invP_lt pl 16 (Nat.le_refl _) i
    have h1 := congrArg (fun x => x.testBit (invP pl 16 i).toNat) h
    simp only [mvM_bit, decide_eq_true hlt, Bool.true_and, pl_invP hp hi] at h1
    exact h1
  · rw [bits_top hs (by omega), bits_top ht (by omega)]
theorem mvM_zero (pl : Nat → UInt8) : mvM pl 0 16 = 0 := Nat.eq_of_testBit_eq fun i => by rw [mvM_bit]; simp
theorem mvC_at {pl : Nat → UInt8} (hp : plOk pl = true) (f : Nat → Int) (z : Int) {s : Nat} (hs : s < 65536) : mvC pl f z 65536 (mvM pl s 16) = f s := by
  obtain ⟨s', h1, h2, h3⟩ := wrR_get (v := f) (f := fun _ => z) (n := 65536) (ix := fun s => mvM pl s 16) ⟨s, hs, rfl⟩
  have e : s' = s := mvM_inj hp h1 hs h2
  rw [e] at h3; exact h3
theorem inn_ge {lo x : Int} {tg : Nat → Nat} {f : Nat → Int} {t : Nat} (hf : lo ≤ f t) : ∀ {k : Nat}, (∀ j, j < k → tg j = t → lo ≤ x) → lo ≤ inn tg x f k t
  | 0, _ => hf
  | k + 1, h => by
    have ih := inn_ge (x := x) (tg := tg) hf (k := k) fun j hj => h j (by omega)
    show lo ≤ upd _ _ _ t
    unfold upd
    split
    · rename_i e; rw [← e]; have := h k (by omega) e.symm; omega
    · exact ih
theorem inn_leF {x : Int} {tg : Nat → Nat} {f : Nat → Int} {t : Nat} : ∀ k, inn tg x f k t ≤ f t
  | 0 => Int.le_refl _
  | k + 1 => by
    have ih := inn_leF (x := x) (tg := tg) (f := f) (t := t) k
    show upd _ _ _ t ≤ _
    unfold upd
    split
    · rename_i e; rw [← e]; omega
    · exact ih
theorem inn_leX {x : Int} {tg : Nat → Nat} {f : Nat → Int} {t j : Nat} (e : tg j = t) : ∀ k, j < k → inn tg x f k t ≤ x
  | 0, h => absurd h (Nat.not_lt_zero j)
  | k + 1, h => by
    show upd _ _ _ t ≤ _
    unfold upd
    split
    · omega
    · rename_i e2
      refine inn_leX e k ?_
      have : j ≠ k := fun e3 => e2 (by rw [← e3, e])
      omega
theorem cols_ge {lo : Int} {tg : Nat → Nat → Nat} {len : Nat → Nat} {v f : Nat → Int} {t : Nat} (hf : lo ≤ f t) : ∀ {n : Nat}, (∀ s, s < n → ∀ k, k < len s → tg s k = t → lo ≤ v s) → lo ≤ cols tg len v f n t
  | 0, _ => hf
  | n + 1, h => inn_ge (cols_ge hf fun s hs => h s (by omega)) fun j hj e => h n (by omega) j hj e
theorem cols_le {tg : Nat → Nat → Nat} {len : Nat → Nat} {v f : Nat → Int} {t s k : Nat} (hk : k < len s) (e : tg s k = t) : ∀ n, s < n → cols tg len v f n t ≤ v s
  | 0, h => absurd h (Nat.not_lt_zero s)
  | n + 1, h => by
    by_cases hn : s = n
    · subst hn; exact inn_leX e _ hk
    · exact Int.le_trans (inn_leF _) (cols_le hk e n (by omega))
theorem colN_lo {lo : Int} (hl : lo ≤ 1000) {F : Nat → Nat → Nat} {len : Nat → Nat} {v : Nat → Int} (hv : ∀ s, s < 65536 → lo ≤ v s) : ∀ c s, s < 65536 → lo ≤ colN F len v c s
  | 0, s, hs => hv s hs
  | c + 1, s, _ => (cols_bd (fun _ => ⟨hl, by omega⟩) 65536 (colN_lo hl hv c) s).1
theorem nib_of {y c : Nat} (hy : y < 16) : (y <<< (4 * c)) >>> (4 * c) &&& 15 = y := by
  rw [Nat.shiftLeft_shiftRight, show (15 : Nat) = 2 ^ 4 - 1 from rfl, Nat.and_two_pow_sub_one_eq_mod]
  exact Nat.mod_eq_of_lt hy
theorem and15_lt (x : Nat) : x &&& 15 < 16 := Nat.lt_of_le_of_lt Nat.and_le_right (by decide)
theorem tgN_zero {c s p : Nat} (hp : p < 16) (h : tgN c s p = 0) (hz : ∀ a, a < 16 → a ≠ 0 → s >>> (4 * c) &&& 15 = a → p ≠ 0) : s = 0 := by
  unfold tgN at h
  have hs : s = ((s >>> (4 * c) &&& 15) ^^^ p) <<< (4 * c) := by
    have h2 : s ^^^ (((s >>> (4 * c) &&& 15) ^^^ p) <<< (4 * c)) ^^^ (((s >>> (4 * c) &&& 15) ^^^ p) <<< (4 * c)) = 0 ^^^ (((s >>> (4 * c) &&& 15) ^^^ p) <<< (4 * c)) := by rw [h]
    rwa [Nat.xor_assoc, Nat.xor_self, Nat.xor_zero, Nat.zero_xor] at h2
  have hlt : (s >>> (4 * c) &&& 15) ^^^ p < 2 ^ 4 := Nat.xor_lt_two_pow (and15_lt _) hp
  have hn : s >>> (4 * c) &&& 15 = (s >>> (4 * c) &&& 15) ^^^ p := by
    conv => lhs; rw [hs]
    exact nib_of hlt
  have hp0 : p = 0 := by
    have h3 : (s >>> (4 * c) &&& 15) ^^^ ((s >>> (4 * c) &&& 15) ^^^ p) = (s >>> (4 * c) &&& 15) ^^^ (s >>> (4 * c) &&& 15) := by rw [← hn]
    rwa [← Nat.xor_assoc, Nat.xor_self, Nat.zero_xor] at h3
  have ha : s >>> (4 * c) &&& 15 = 0 := by
    refine Classical.byContradiction fun hne => ?_
    exact hz _ (and15_lt _) hne rfl hp0
  rw [ha, hp0, Nat.xor_zero, Nat.zero_shiftLeft] at hs
  exact hs
theorem colN_z {F : Nat → Nat → Nat} {len : Nat → Nat} {v : Nat → Int} (hl : ∀ a k, F a k < 16) (hF : ∀ a, a < 16 → a ≠ 0 → ∀ k, k < len a → F a k ≠ 0) (hv : 1000 ≤ v 0) : ∀ c, 1000 ≤ colN F len v c 0
  | 0 => hv
  | c + 1 => cols_ge (Int.le_refl _) fun s _ k hk e => by
    have hs : s = 0 := tgN_zero (hl _ _) e fun a ha hne ea => hF a ha hne k (ea ▸ hk) |> fun h => by rw [ea]; exact h
    subst hs
    exact colN_z hl hF hv c
theorem popP_zero {x : Nat} : ∀ n, popP x n = 0 → x % 2 ^ n = 0
  | 0, _ => by rw [Nat.pow_zero, Nat.mod_one]
  | n + 1, h => by
    unfold popP at h
    have h1 := popP_zero (x := x) n (by omega)
    rw [Nat.mod_pow_succ, h1, ← Nat.shiftRight_eq_div_pow]
    have h2 : x >>> n % 2 = 0 := by omega
    rw [h2, Nat.mul_zero]
theorem popP_one {s : Nat} (hs : s < 65536) (h0 : s ≠ 0) : 1 ≤ popP s 16 := by
  rcases Nat.eq_zero_or_pos (popP s 16) with h | h
  · have := popP_zero 16 h
    rw [Nat.mod_eq_of_lt (show s < 2 ^ 16 from hs)] at this
    exact absurd this h0
  · exact h
theorem itS_lo {pl : Nat → UInt8} (hp : plOk pl = true) {F : Nat → Nat → Nat} {len : Nat → Nat} (hl : ∀ a k, F a k < 16) (hF : ∀ a, a < 16 → a ≠ 0 → ∀ k, k < len a → F a k ≠ 0) :
    ∀ r : Nat, r ≤ 20 → 1000 ≤ itS pl F len r 0 ∧ ∀ s, s < 65536 → ((r : Nat) : Int) + 1 ≤ itS pl F len r s
  | 0, _ => by
    refine ⟨Int.le_refl _, fun s hs => ?_⟩
    have e : itS pl F len 0 s = if s = 0 then 1000 else ((popP s 16 : Nat) : Int) := rfl
    rw [e]
    split
    · omega
    · rename_i h; have := popP_one hs h; omega
  | r + 1, hr => by
    obtain ⟨h1, h2⟩ := itS_lo hp hl hF r (by omega)
    have hv : ∀ t, t < 65536 → ((r : Nat) : Int) + 1 ≤ mvC pl (itS pl F len r) 0 65536 t := fun t ht => by
      obtain ⟨s, hs, rfl⟩ := mvM_onto hp ht
      rw [mvC_at hp _ _ hs]; exact h2 s hs
    have hz : 1000 ≤ mvC pl (itS pl F len r) 0 65536 0 := by
      have := mvC_at hp (itS pl F len r) 0 (s := 0) (by omega)
      rw [mvM_zero] at this
      rw [this]; exact h1
    have h3 := colN_z hl hF hz 4
    refine ⟨?_, fun s hs => ?_⟩
    · show 1000 ≤ colN F len _ 4 0 + ((popP 0 16 : Nat) : Int)
      omega
    · show _ ≤ colN F len _ 4 s + ((popP s 16 : Nat) : Int)
      by_cases h0 : s = 0
      · subst h0; omega
      · have h4 := colN_lo (lo := ((r : Nat) : Int) + 1) (by omega) hv (F := F) (len := len) 4 s hs
        have := popP_one hs h0
        omega
theorem lsF_lo {f : Nat → Int} {lo : Int} (hl : lo ≤ 1000) : ∀ {n : Nat}, (∀ s, s < n → lo ≤ f s) → lo ≤ lsF f n
  | 0, _ => hl
  | n + 1, h => by
    have ih := lsF_lo hl (f := f) (n := n) fun s hs => h s (by omega)
    have := h n (by omega)
    show lo ≤ if f n < lsF f n then f n else lsF f n
    split <;> omega
theorem lsF_hi {f : Nat → Int} {s : Nat} : ∀ {n : Nat}, s < n → lsF f n ≤ f s
  | 0, h => absurd h (Nat.not_lt_zero s)
  | n + 1, h => by
    show (if f n < lsF f n then f n else lsF f n) ≤ f s
    by_cases e : s = n
    · subst e; split <;> omega
    · have ih := lsF_hi (f := f) (s := s) (n := n) (by omega)
      split <;> omega
def StepN (pl : Nat → UInt8) (F : Nat → Nat → Nat) (len : Nat → Nat) (s s' : Nat) : Prop :=
  ∃ t : Nat → Nat, t 0 = mvM pl s 16 ∧ t 4 = s' ∧ ∀ c, c < 4 → t c < 65536 ∧ ∃ k, k < len (t c >>> (4 * c) &&& 15) ∧ tgN c (t c) (F (t c >>> (4 * c) &&& 15) k) = t (c + 1)
theorem colN_path {F : Nat → Nat → Nat} {len : Nat → Nat} {v : Nat → Int} {t : Nat → Nat} (h : ∀ c, c < 4 → t c < 65536 ∧ ∃ k, k < len (t c >>> (4 * c) &&& 15) ∧ tgN c (t c) (F (t c >>> (4 * c) &&& 15) k) = t (c + 1)) : ∀ c, c ≤ 4 → colN F len v c (t c) ≤ v (t 0)
  | 0, _ => Int.le_refl _
  | c + 1, hc => by
    obtain ⟨h1, k, h2, h3⟩ := h c (by omega)
    refine Int.le_trans ?_ (colN_path h c (by omega))
    exact cols_le (tg := fun s k => tgN c s (F (s >>> (4 * c) &&& 15) k)) (len := fun s => len (s >>> (4 * c) &&& 15)) (v := colN F len v c) h2 h3 65536 h1
theorem rdS_step {pl : Nat → UInt8} (hp : plOk pl = true) {F : Nat → Nat → Nat} {len : Nat → Nat} {s s' : Nat} (hs : s < 65536) (h : StepN pl F len s s') (f : Nat → Int) : rdS pl F len f s' ≤ f s + ((popP s' 16 : Nat) : Int) := by
  obtain ⟨t, h0, h4, hc⟩ := h
  have h1 := colN_path (v := mvC pl f 0 65536) hc 4 (Nat.le_refl _)
  rw [h0, h4, mvC_at hp f 0 hs] at h1
  show colN F len _ 4 s' + _ ≤ _
  omega
def spS (S : Nat → Nat) : Nat → Nat
  | 0 => popP (S 0) 16
  | r + 1 => spS S r + popP (S (r + 1)) 16
theorem path_le {pl : Nat → UInt8} (hp : plOk pl = true) {F : Nat → Nat → Nat} {len : Nat → Nat} {S : Nat → Nat} (hS : ∀ r, S r < 65536) (h0 : S 0 ≠ 0) {n : Nat} (h : ∀ r, r < n → StepN pl F len (S r) (S (r + 1))) :
    ∀ r, r ≤ n → itS pl F len r (S r) ≤ ((spS S r : Nat) : Int)
  | 0, _ => by
    have e : itS pl F len 0 (S 0) = if S 0 = 0 then 1000 else ((popP (S 0) 16 : Nat) : Int) := rfl
    rw [e, if_neg h0]
    exact Int.le_refl _
  | r + 1, hr => by
    have ih := path_le hp hS h0 h r (by omega)
    have h1 := rdS_step hp (hS r) (h r (by omega)) (itS pl F len r)
    show rdS pl F len (itS pl F len r) (S (r + 1)) ≤ ((spS S r + popP (S (r + 1)) 16 : Nat) : Int)
    omega
def acM (d : Nat → UInt8) : Nat → Nat
  | 0 => 0
  | k + 1 => acM d k ||| ((if d k = 0 then 0 else 1) <<< k)
theorem acM_bit (d : Nat → UInt8) : ∀ n i, (acM d n).testBit i = (decide (i < n) && d i != 0)
  | 0, i => by simp [acM]
  | n + 1, i => by
    rw [acM, Nat.testBit_or, acM_bit d n i, Nat.testBit_shiftLeft]
    rcases Nat.lt_trichotomy i n with h | h | h
    · rw [decide_eq_true h, decide_eq_true (show i < n + 1 by omega), decide_eq_false (show ¬ i ≥ n by omega), Bool.false_and, Bool.or_false]
    · subst h
      rw [decide_eq_false (Nat.lt_irrefl i), decide_eq_true (show i < i + 1 by omega), decide_eq_true (show i ≥ i by omega), Nat.sub_self]
      by_cases h0 : d i = 0
      · simp [h0]
      · simp [h0]
    · rw [decide_eq_false (show ¬ i < n by omega), decide_eq_false (show ¬ i < n + 1 by omega), decide_eq_true (show i ≥ n by omega)]
      split
      · simp
      · rw [Nat.testBit_lt_two_pow (x := 1) (i := i - n) (Nat.one_lt_two_pow (by omega))]; simp
theorem acM_lt (d : Nat → UInt8) (n : Nat) : acM d n < 2 ^ n := Nat.lt_pow_two_of_testBit _ fun i hi => by rw [acM_bit, decide_eq_false (by omega), Bool.false_and]
theorem acM_pop (d : Nat → UInt8) : ∀ k, k ≤ 16 → popP (acM d 16) k = cntA d k
  | 0, _ => rfl
  | k + 1, hk => by
    have ih := acM_pop d k (by omega)
    have h1 : acM d 16 >>> k % 2 = if d k != 0 then 1 else 0 := by
      have h2 := acM_bit d 16 k
      rw [decide_eq_true (show k < 16 by omega), Bool.true_and] at h2
      rw [Nat.shiftRight_eq_div_pow, ← Nat.toNat_testBit, h2]
      cases d k != 0 <;> rfl
    rw [cntA_succ, ← ih, ← h1]
    rfl
theorem acM_mov {pl : Nat → UInt8} (hp : plOk pl = true) (d : Nat → UInt8) : mvM pl (acM d 16) 16 = acM (movF pl d) 16 := Nat.eq_of_testBit_eq fun i => by
  rw [mvM_bit, acM_bit, acM_bit]
  by_cases hi : i < 16
  · rw [decide_eq_true hi, decide_eq_true (plOk_lt hp hi), Bool.true_and, Bool.true_and, Bool.true_and]; rfl
  · rw [decide_eq_false hi, Bool.false_and, Bool.false_and]
theorem acM_nib (b : Nat → UInt8) {c : Nat} (hc : c < 4) : acM b 16 >>> (4 * c) &&& 15 = supp fun t => b (4 * c + t) := Nat.eq_of_testBit_eq fun i => by
  rw [Nat.testBit_and, Nat.testBit_shiftRight, acM_bit, bit15]
  by_cases hi : i < 4
  · have h := supp_bit (fun t => b (4 * c + t)) hi
    rw [decide_eq_true hi, Bool.and_true, decide_eq_true (show 4 * c + i < 16 by omega), Bool.true_and, Bool.eq_iff_iff, h]
    simp
  · rw [decide_eq_false hi, Bool.and_false]
    exact (Nat.testBit_lt_two_pow (Nat.lt_of_lt_of_le (show supp (fun t => b (4 * c + t)) < 2 ^ 4 from supp_lt _) (Nat.pow_le_pow_right (by omega) (by omega)))).symm
theorem patL_has (m : Nat) (a : Nat → UInt8) {p q : Nat} (hq : 0 < manyF m a p q) : ∀ k, q < k → ((q : Nat) : Int) ∈ patL m a p k
  | 0, h => absurd h (Nat.not_lt_zero q)
  | k + 1, h => by
    rw [patL]
    by_cases e : q = k
    · subst e; rw [if_pos hq]; simp
    · have := patL_has m a hq k (by omega)
      split
      · exact List.mem_append_left _ this
      · exact this
theorem patL_is (m : Nat) (a : Nat → UInt8) (p : Nat) : ∀ (k : Nat) (x : Int), x ∈ patL m a p k → ∃ q : Nat, x = q ∧ q < k ∧ 0 < manyF m a p q
  | 0, x, h => by rw [patL] at h; cases h
  | k + 1, x, h => by
    rw [patL] at h
    split at h
    · rename_i hk
      rcases List.mem_append.1 h with h | h
      · obtain ⟨q, h1, h2, h3⟩ := patL_is m a p k x h
        exact ⟨q, h1, by omega, h3⟩
      · exact ⟨k, List.mem_singleton.1 h, by omega, hk⟩
    · obtain ⟨q, h1, h2, h3⟩ := patL_is m a p k x h
      exact ⟨q, h1, by omega, h3⟩
theorem many_wit {m : Nat} {a : Nat → UInt8} {x y : Nat} (h : 0 < manyF m a x y) : ∃ u, supp u = x ∧ supp (D m a u) = y := by
  refine Classical.byContradiction fun hne => ?_
  have e : (fun u => if supp u = x ∧ supp (D m a u) = y then (1 : Int) else 0) = fun _ => 0 := funext fun u => if_neg fun hu => hne ⟨u, hu⟩
  unfold manyF at h
  rw [e, sT_zero] at h
  exact absurd h (by omega)
theorem supp_z {u : Nat → UInt8} (h : supp u = 0) {i : Nat} (hi : i < 4) : u i = 0 := by
  have := supp_bit u hi
  rw [h, Nat.zero_testBit] at this
  refine Classical.byContradiction fun hne => ?_
  exact absurd (this.2 hne) (by decide)
theorem supp_0 {u : Nat → UInt8} (h : ∀ i, i < 4 → u i = 0) : supp u = 0 := by
  unfold supp; rw [h 0 (by omega), h 1 (by omega), h 2 (by omega), h 3 (by omega)]; rfl
theorem many_nz {m : Nat} (h0 : 256 ≤ m) (h1 : m < 512) (hf : fieldB m = true) {a : Nat → UInt8} (hd : detF m a ≠ 0) {x : Nat} (hx : x ≠ 0) : ¬ 0 < manyF m a x 0 := fun h => by
  obtain ⟨u, e1, e2⟩ := many_wit h
  have hy : ∀ i, i < 4 → D m a u i = 0 := fun i hi => supp_z e2 hi
  exact hx (e1 ▸ supp_0 fun i hi => ker_ns h0 h1 hf hd hy hi)
theorem paN_at {m : Nat} {a : Nat → UInt8} {p k : Nat} (hk : k < paLen m a p) : ((paN m a p k : Nat) : Int) ∈ patR m a p ∧ 0 < manyF m a p (paN m a p k) := by
  have h1 : paF m a p k ∈ patR m a p := by
    unfold paF
    rw [List.getD_eq_getElem?_getD, List.getElem?_eq_getElem hk]
    exact List.getElem_mem hk
  obtain ⟨q, e, _, h3⟩ := patL_is m a p 16 _ h1
  have e2 : paN m a p k = q := by unfold paN; rw [e]; rfl
  rw [e2]
  exact ⟨e ▸ h1, h3⟩
theorem paN_nz {m : Nat} (h0 : 256 ≤ m) (h1 : m < 512) (hf : fieldB m = true) {a : Nat → UInt8} (hd : detF m a ≠ 0) (x : Nat) (_ : x < 16) (hx : x ≠ 0) (k : Nat) (hk : k < paLen m a x) : paN m a x k ≠ 0 := fun e => by
  have := (paN_at hk).2
  rw [e] at this
  exact many_nz h0 h1 hf hd hx this
theorem paN_ex {m : Nat} {a : Nat → UInt8} {p q : Nat} (hq : q < 16) (h : 0 < manyF m a p q) : ∃ k, k < paLen m a p ∧ paN m a p k = q := by
  obtain ⟨k, hk, e⟩ := List.getElem_of_mem (patL_has m a h 16 hq)
  refine ⟨k, hk, ?_⟩
  unfold paN paF
  rw [show patR m a p = patL m a p 16 from rfl, List.getD_eq_getElem?_getD, List.getElem?_eq_getElem hk]
  show (((patL m a p 16)[k]).toNat) = q
  rw [e]; rfl
theorem least_lo {m : Nat} (h0 : 256 ≤ m) (h1 : m < 512) (hf : fieldB m = true) {mx pl : Nat → UInt8} (hd : detF m mx ≠ 0) (hp : plOk pl = true) {r : Nat} (hr : r ≤ 20) : ((r + 1 : Nat) : Int) ≤ lsF (itS pl (paN m mx) (paLen m mx) r) 65536 :=
  lsF_lo (by omega) fun s hs => by
    have := (itS_lo hp (paN_lt m mx) (paN_nz h0 h1 hf hd) r hr).2 s hs
    omega
def halfF (b e : Nat → UInt8) (c : Nat) : Nat → UInt8 := fun i => if i < 4 * c then e i else b i
theorem acM_cong {d e : Nat → UInt8} (h : ∀ i, i < 16 → d i = e i) : acM d 16 = acM e 16 := Nat.eq_of_testBit_eq fun i => by
  rw [acM_bit, acM_bit]
  by_cases hi : i < 16
  · rw [h i hi]
  · rw [decide_eq_false hi, Bool.false_and, Bool.false_and]
theorem step_mix {m : Nat} {mx pl : Nat → UInt8} (hp : plOk pl = true) (x : Nat → UInt8) : StepN pl (paN m mx) (paLen m mx) (acM x 16) (acM (mixF m mx (movF pl x)) 16) := by
  obtain ⟨b, hb⟩ : ∃ b, b = movF pl x := ⟨_, rfl⟩
  obtain ⟨e, he⟩ : ∃ e, e = mixF m mx b := ⟨_, rfl⟩
  rw [← hb, ← he]
  refine ⟨fun c => acM (halfF b e c) 16, ?_, ?_, fun c hc => ⟨acM_lt _ 16, ?_⟩⟩
  · rw [acM_mov hp, ← hb]
    exact acM_cong fun i _ => if_neg (by omega)
  · exact acM_cong fun i hi => if_pos (by omega)
  · have hn : acM (halfF b e c) 16 >>> (4 * c) &&& 15 = supp fun t => b (4 * c + t) := by
      rw [acM_nib _ hc]
      congr 1
      funext t
      exact if_neg (by omega)
    have hq := many_pos m mx fun t => b (4 * c + t)
    obtain ⟨k, hk, ek⟩ := paN_ex (supp_lt _) hq
    refine ⟨k, by rw [hn]; exact hk, ?_⟩
    simp only [hn, ek]
    have hlt : supp (D m mx fun t => b (4 * c + t)) < 2 ^ 4 := supp_lt _
    refine Nat.eq_of_testBit_eq fun i => ?_
    unfold tgN
    rw [Nat.testBit_xor, Nat.testBit_shiftLeft, Nat.testBit_xor, Nat.testBit_and, Nat.testBit_shiftRight, bit15, acM_bit, acM_bit, acM_bit]
    by_cases hi : i ≥ 4 * c
    · rw [decide_eq_true hi, Bool.true_and, show 4 * c + (i - 4 * c) = i by omega]
      by_cases h4 : i - 4 * c < 4
      · have hsb := supp_bit (D m mx fun t => b (4 * c + t)) h4
        have hei : e i = D m mx (fun t => b (4 * c + t)) (i - 4 * c) := by
          rw [he]
          show mxP m mx b (i / 4) (i % 4) 4 = _
          rw [mix_D, show i / 4 = c by omega, show i % 4 = i - 4 * c by omega]
        have h5 : halfF b e (c + 1) i = e i := if_pos (by omega)
        have h6 : (supp (D m mx fun t => b (4 * c + t))).testBit (i - 4 * c) = (e i != 0) := by
          rw [Bool.eq_iff_iff, hsb, hei]; simp
        rw [decide_eq_true h4, Bool.and_true, decide_eq_true (show i < 16 by omega), Bool.true_and, Bool.true_and, h5, h6]
        cases halfF b e c i != 0 <;> cases e i != 0 <;> rfl
      · have h5 : halfF b e (c + 1) i = halfF b e c i := by
          unfold halfF; rw [if_neg (by omega), if_neg (by omega)]
        rw [decide_eq_false h4, Bool.and_false, Nat.testBit_lt_two_pow (Nat.lt_of_lt_of_le hlt (Nat.pow_le_pow_right (by omega) (by omega))), h5]
        cases (decide (i < 16) && halfF b e c i != 0) <;> rfl
    · have h5 : halfF b e (c + 1) i = halfF b e c i := by
        unfold halfF; rw [if_pos (by omega), if_pos (by omega)]
      rw [decide_eq_false hi, Bool.false_and, h5, Bool.xor_false]
theorem xor_fix {x d : UInt8} (h : x ^^^ d = x) : d = 0 := by
  have h2 : x ^^^ (x ^^^ d) = x ^^^ x := by rw [h]
  rwa [← UInt8.xor_assoc, UInt8.xor_self, UInt8.zero_xor] at h2
theorem bs_nz {bx d : Nat → UInt8} (hb : boxOk bx = true) {i : Nat} (h : d i ≠ 0) : bsF bx d i ≠ 0 := fun e => by
  have h1 := dif_some bx (d i)
  have h2 : bestP (difP bx (d i) 256) 255 = 0 := by
    rw [← bs_nat, e]; rfl
  rw [h2, difP_cnt, cntP_range] at h1
  have h3 := List.countP_pos_iff.1 (show 0 < (List.range 256).countP fun k => (diA bx (d i) k).toNat == 0 by omega)
  obtain ⟨k, hk, hz⟩ := h3
  have hk' := List.mem_range.1 hk
  have hz' : diA bx (d i) k = 0 := UInt8.toNat_inj.1 (by simpa using hz)
  unfold diA at hz'
  have h4 := boxOk_inj hb _ _ hk' (u8_lt _) (u8_xor_eq hz')
  refine h (xor_fix (x := UInt8.ofNat k) ?_)
  rw [← UInt8.toNat_inj, ← h4, u8_ofNat_toNat hk']
theorem acM_bs {bx : Nat → UInt8} (hb : boxOk bx = true) (d : Nat → UInt8) : acM (bsF bx d) 16 = acM d 16 := Nat.eq_of_testBit_eq fun i => by
  rw [acM_bit, acM_bit]
  congr 1
  by_cases h : d i = 0
  · rw [bs_zero bx d h, h]
  · rw [Bool.eq_iff_iff]
    simp [h, bs_nz hb h]
theorem trail_le {m : Nat} {bx mx pl : Nat → UInt8} (hb : boxOk bx = true) (hp : plOk pl = true) {T : Nat → Nat → UInt8} {n : Nat} (h : ∀ r, r < n → T (r + 1) = layF m mx pl (bsF bx (T r)) false) {j : Nat} (hj : j < 16) (h0 : T 0 j ≠ 0) :
    lsF (itS pl (paN m mx) (paLen m mx) n) 65536 ≤ ((spS (fun r => acM (T r) 16) n : Nat) : Int) := by
  have hS : ∀ r, (fun r => acM (T r) 16) r < 65536 := fun r => acM_lt _ 16
  have hne : (fun r => acM (T r) 16) 0 ≠ 0 := fun e => by
    have h1 := acM_bit (T 0) 16 j
    have h2 : acM (T 0) 16 = 0 := e
    rw [h2, decide_eq_true hj, Bool.true_and, Nat.zero_testBit] at h1
    exact h0 (by simpa using h1.symm)
  refine Int.le_trans (lsF_hi (hS n)) (path_le hp hS hne (n := n) (fun r hr => ?_) n (Nat.le_refl _))
  show StepN pl _ _ (acM (T r) 16) (acM (T (r + 1)) 16)
  rw [h r hr, ← acM_bs hb (T r)]
  exact step_mix hp _
end Go.Proofs.YtenkjbkcdcionaaGreat
/- Parts of the law on trails: both sides' answers, compared. -/
namespace Go.Proofs.YtenkjbkcdcionaaGreat
set_option linter.unusedSimpArgs false
set_option linter.unusedVariables false
set_option maxRecDepth 20000
set_option maxHeartbeats 1000000
open Go.Abs

theorem pa0 (m : Nat) (a : Nat → UInt8) : ∀ k, patL m a 0 (k + 1) = [0]
  | 0 => by
    have h := many_pos m a fun _ => 0
    rw [supp_0 fun _ _ => rfl, supp_0 fun i _ => D_zeroY a i] at h
    rw [patL_t h]; rfl
  | k + 1 => by
    rw [patL_f fun h => ?_, pa0 m a k]
    obtain ⟨u, e1, e2⟩ := many_wit h
    rw [supp_0 fun i _ => (D_cong (z := fun _ => 0) fun t ht => supp_z e1 ht).trans (D_zeroY a i)] at e2
    exact absurd e2 (by omega)
theorem pa_zero (m : Nat) (a : Nat → UInt8) : paLen m a 0 = 1 ∧ paF m a 0 0 = 0 := by
  have h := pa0 m a 15
  refine ⟨?_, ?_⟩
  · rw [paLen_is, h]; rfl
  · unfold paF patR; rw [h]; rfl
theorem pa_some (m : Nat) (a : Nat → UInt8) : 0 < paLen m a 15 := patR_pos m a (p := 15) (by omega)
theorem likeT_ac {h : List Blk} {b b' n : Nat} {f : Nat → Int} {r r' : Bool} (hb : h[b]? = some ⟨Is n f, r⟩) (hb' : h[b']? = some ⟨Is n f, r'⟩) (hn : n ≤ 1048576) : AC Tryz.prog 19 [sl b 0 n 1, sl b' 0 n 1] h (.bool true) h := by
  have hbl := blt hb
  have hbl' := blt hb'
  (refine AC_begin (fun _ _ => Tryz.call19 _ _) Tryz.func19 rfl Tryz.ntmps19 Tryz.results19 (fun hwf => ?_); simp only [LCN, Nat.reduceAdd, Nat.reduceSub, List.replicate])
  (repeat (first | ((first | (refine And.intro ?_ ?_; focus exact PLA) | refine WA_seq (WA_region ?_) | refine WA_region ?_ | refine WA_exit ?_); try simp (maxSteps := 1000000) (disch := first | omega | rfl | decide | (simp only [LX] <;> omega)) only [go_sem, Nat.reduceAdd, Int.reduceAdd, Int.reduceSub, Int.reduceMul, BNS, bne_self_eq_false]) | (refine WA_seq (WA_draw (id := 6) mixedOk (by kernel_rfl) ?_); simp (maxSteps := 1000000) (disch := first | omega | rfl | decide | (simp only [LX] <;> omega)) only [go_sem, Nat.reduceAdd, Int.reduceAdd, Int.reduceSub, Int.reduceMul, BNS, bne_self_eq_false]) | (refine WA_draw (id := 6) mixedOk (by kernel_rfl) ?_; simp (maxSteps := 1000000) (disch := first | omega | rfl | decide | (simp only [LX] <;> omega)) only [go_sem, Nat.reduceAdd, Int.reduceAdd, Int.reduceSub, Int.reduceMul, BNS, bne_self_eq_false]) | refine WA_seq ?_ | refine WA_block ?_ | (refine WA_skip ?_; try simp only [go_sem]) | (refine WA_ret ?_; try simp only [go_sem]) | refine WA_ct rfl ?_ | refine WA_cf rfl ?_))
  refine WA_forH (fun k => [(4, J), (5, .int .i64 k), (11, J), (12, J), (13, J), (14, J), (15, J), (16, J), (17, J), (18, J), (19, J), (20, J), (21, J), (22, J), (23, J), (24, J), (25, J)]) (fun k => h) (n) ?_ ?_ ?_ <;> (try simp only [PTS])
  · (exact sS0)
  · intro k hk
    (repeat (first | ((first | (refine And.intro ?_ ?_; focus exact PLA) | refine WA_seq (WA_region ?_) | refine WA_region ?_ | refine WA_exit ?_); try simp (maxSteps := 1000000) (disch := first | omega | rfl | decide | (simp only [LX] <;> omega)) only [go_sem, Nat.reduceAdd, Int.reduceAdd, Int.reduceSub, Int.reduceMul, BNS, hb, hb', bne_self_eq_false]) | (refine WA_seq (WA_draw (id := 6) mixedOk (by kernel_rfl) ?_); simp (maxSteps := 1000000) (disch := first | omega | rfl | decide | (simp only [LX] <;> omega)) only [go_sem, Nat.reduceAdd, Int.reduceAdd, Int.reduceSub, Int.reduceMul, BNS, hb, hb', bne_self_eq_false]) | (refine WA_draw (id := 6) mixedOk (by kernel_rfl) ?_; simp (maxSteps := 1000000) (disch := first | omega | rfl | decide | (simp only [LX] <;> omega)) only [go_sem, Nat.reduceAdd, Int.reduceAdd, Int.reduceSub, Int.reduceMul, BNS, hb, hb', bne_self_eq_false]) | refine WA_seq ?_ | refine WA_block ?_ | (refine WA_skip ?_; try simp only [go_sem]) | (refine WA_ret ?_; try simp only [go_sem]) | refine WA_ct rfl ?_ | refine WA_cf rfl ?_))
    (exact sS0)
  · (repeat (first | ((first | (refine And.intro ?_ ?_; focus exact PLA) | refine WA_seq (WA_region ?_) | refine WA_region ?_ | refine WA_exit ?_); try simp (maxSteps := 1000000) (disch := first | omega | rfl | decide | (simp only [LX] <;> omega)) only [go_sem, Nat.reduceAdd, Int.reduceAdd, Int.reduceSub, Int.reduceMul, BNS]) | (refine WA_seq (WA_draw (id := 6) mixedOk (by kernel_rfl) ?_); simp (maxSteps := 1000000) (disch := first | omega | rfl | decide | (simp only [LX] <;> omega)) only [go_sem, Nat.reduceAdd, Int.reduceAdd, Int.reduceSub, Int.reduceMul, BNS]) | (refine WA_draw (id := 6) mixedOk (by kernel_rfl) ?_; simp (maxSteps := 1000000) (disch := first | omega | rfl | decide | (simp only [LX] <;> omega)) only [go_sem, Nat.reduceAdd, Int.reduceAdd, Int.reduceSub, Int.reduceMul, BNS]) | refine WA_seq ?_ | refine WA_block ?_ | (refine WA_skip ?_; try simp only [go_sem]) | (refine WA_ret ?_; try simp only [go_sem]) | refine WA_ct rfl ?_ | refine WA_cf rfl ?_))
    (exact sR0)
theorem lists9_nil (h : List Blk) : AC Tryz.prog 8 [.slice none 0 0, .slice none 0 0] h (.bool true) h := by
  (refine AC_begin (fun _ _ => Tryz.call8 _ _) Tryz.func8 rfl Tryz.ntmps8 Tryz.results8 (fun hwf => ?_); simp only [LCN, Nat.reduceAdd, Nat.reduceSub, List.replicate])
  (refine sN0 ?_)
  refine WA_forH (fun k => [(4, J), (5, .int .i64 k), (11, J), (12, J), (13, J), (14, J), (15, J), (16, J), (17, J), (18, J), (19, J), (20, J), (21, J), (22, J), (23, J), (24, J), (25, J), (26, J)]) (fun k => h) (0) ?_ ?_ ?_ <;> (try simp only [PTS])
  · (exact sS0)
  · intro k hk
    omega
  · (refine sN (And.intro (show decide ((0 : Nat) < 0) = false from rfl) (show decide ((0 : Int) < 0) = false from rfl)) ?_)
    (exact sR0)
theorem lists9_ac {h : List Blk} {b b' N : Nat} {g g' len : Nat → Nat} {F : Nat → Nat → Int} {r r' : Bool} (hb : h[b]? = some ⟨Vs N fun j => sl (g j) 0 (len j) 1, r⟩) (hb' : h[b']? = some ⟨Vs N fun j => sl (g' j) 0 (len j) 1, r'⟩)
    (hr : ∀ j, j < N → h[g j]? = some ⟨Is (len j) (F j), true⟩) (hr' : ∀ j, j < N → h[g' j]? = some ⟨Is (len j) (F j), true⟩) (hl : ∀ j, j < N → len j ≤ 1000) (hN : N ≤ 1000) :
    AC Tryz.prog 8 [sl b 0 N 1, sl b' 0 N 1] h (.bool true) h := by
  have hbl := blt hb
  have hbl' := blt hb'
  (refine AC_begin (fun _ _ => Tryz.call8 _ _) Tryz.func8 rfl Tryz.ntmps8 Tryz.results8 (fun hwf => ?_); simp only [LCN, Nat.reduceAdd, Nat.reduceSub, List.replicate])
  (refine sN0 ?_)
  refine WA_forH (fun k => [(4, J), (5, .int .i64 k), (11, J), (12, J), (13, J), (14, J), (15, J), (16, J), (17, J), (18, J), (19, J), (20, J), (21, J), (22, J), (23, J), (24, J), (25, J), (26, J)]) (fun k => h) (N) ?_ ?_ ?_ <;> (try simp only [PTS])
  · (exact sS0)
  · intro k hk
    have h1 := blt (hr k hk)
    have h2 := blt (hr' k hk)
    have hq : AC Tryz.prog 19 [sl (g k) 0 (len k) 1, sl (g' k) 0 (len k) 1] (ro h) (.bool true) (ro h) := likeT_ac (ro_of (hr k hk)) (ro_of (hr' k hk)) (Nat.le_trans (hl k hk) (by omega))
    (repeat (first | ((first | (refine And.intro ?_ ?_; focus exact PLA) | ((first | with_reducible apply callB_i | with_reducible apply callK_intro | with_reducible apply callQ_i); (focus (first | assumption | (with_reducible apply hq <;> (first | assumption | rfl | (simp (disch := omega) only [go_sem]; first | done | rfl) | omega | decide | (simp; done))))); (try exact WP_au)) | refine WA_seq (WA_region ?_) | refine WA_region ?_ | refine WA_exit ?_); try simp (maxSteps := 1000000) (disch := first | omega | rfl | decide | (simp only [LX] <;> omega)) only [go_sem, Nat.reduceAdd, Int.reduceAdd, Int.reduceSub, Int.reduceMul, BNS, hb, hb', Bool.not_true]) | (refine WA_seq (WA_draw (id := 6) mixedOk (by kernel_rfl) ?_); simp (maxSteps := 1000000) (disch := first | omega | rfl | decide | (simp only [LX] <;> omega)) only [go_sem, Nat.reduceAdd, Int.reduceAdd, Int.reduceSub, Int.reduceMul, BNS, hb, hb', Bool.not_true]) | (refine WA_draw (id := 6) mixedOk (by kernel_rfl) ?_; simp (maxSteps := 1000000) (disch := first | omega | rfl | decide | (simp only [LX] <;> omega)) only [go_sem, Nat.reduceAdd, Int.reduceAdd, Int.reduceSub, Int.reduceMul, BNS, hb, hb', Bool.not_true]) | refine WA_seq ?_ | refine WA_block ?_ | (refine WA_skip ?_; try simp only [go_sem]) | (refine WA_ret ?_; try simp only [go_sem]) | refine WA_ct rfl ?_ | refine WA_cf rfl ?_))
    (exact sS0)
  · (refine sN0 ?_)
    (exact sR0)
theorem blk9_nil (h : List Blk) : AC Tryz.prog 12 [.slice none 0 0, .slice none 0 0] h (.bool true) h := by
  (refine AC_begin (fun _ _ => Tryz.call12 _ _) Tryz.func12 rfl Tryz.ntmps12 Tryz.results12 (fun hwf => ?_); simp only [LCN, Nat.reduceAdd, Nat.reduceSub, List.replicate])
  (refine sN0 ?_)
  refine WA_forH (fun k => [(4, J), (5, .int .i64 k), (11, J), (12, J), (13, J), (14, J), (15, J), (16, J), (17, J), (18, J), (19, J), (20, J), (21, J), (22, J), (23, J), (24, J), (25, J)]) (fun k => h) (0) ?_ ?_ ?_ <;> (try simp only [PTS])
  · (exact sS0)
  · intro k hk
    omega
  · (refine sN (And.intro (show decide ((0 : Nat) < 0) = false from rfl) (show decide ((0 : Int) < 0) = false from rfl)) ?_)
    (exact sR0)
theorem blk9_ac {h : List Blk} {b b' n : Nat} {f : Nat → UInt8} {r r' : Bool} (hb : h[b]? = some ⟨Bs (n * 16) f, r⟩) (hb' : h[b']? = some ⟨Bs (n * 16) f, r'⟩) (hn : n ≤ 1000) : AC Tryz.prog 12 [sl b 0 n 16, sl b' 0 n 16] h (.bool true) h := by
  have hbl := blt hb
  have hbl' := blt hb'
  (refine AC_begin (fun _ _ => Tryz.call12 _ _) Tryz.func12 rfl Tryz.ntmps12 Tryz.results12 (fun hwf => ?_); simp only [LCN, Nat.reduceAdd, Nat.reduceSub, List.replicate])
  (refine sN0 ?_)
  refine WA_forH (fun k => [(4, J), (5, .int .i64 k), (11, J), (12, J), (13, J), (14, J), (15, J), (16, J), (17, J), (18, J), (19, J), (20, J), (21, J), (22, J), (23, J), (24, J), (25, J)]) (fun k => h) (n) ?_ ?_ ?_ <;> (try simp only [PTS])
  · (exact sS0)
  · intro k hk
    (repeat (first | ((first | (refine And.intro ?_ ?_; focus exact PLA) | refine WA_seq (WA_region ?_) | refine WA_region ?_ | refine WA_exit ?_); try simp (maxSteps := 1000000) (disch := first | omega | rfl | decide | (simp only [LX] <;> omega)) only [go_sem, Nat.reduceAdd, Int.reduceAdd, Int.reduceSub, Int.reduceMul, BNS, hb, hb', bne_self_eq_false, eqB_self, Bool.not_true]) | (refine WA_seq (WA_draw (id := 6) mixedOk (by kernel_rfl) ?_); simp (maxSteps := 1000000) (disch := first | omega | rfl | decide | (simp only [LX] <;> omega)) only [go_sem, Nat.reduceAdd, Int.reduceAdd, Int.reduceSub, Int.reduceMul, BNS, hb, hb', bne_self_eq_false, eqB_self, Bool.not_true]) | (refine WA_draw (id := 6) mixedOk (by kernel_rfl) ?_; simp (maxSteps := 1000000) (disch := first | omega | rfl | decide | (simp only [LX] <;> omega)) only [go_sem, Nat.reduceAdd, Int.reduceAdd, Int.reduceSub, Int.reduceMul, BNS, hb, hb', bne_self_eq_false, eqB_self, Bool.not_true]) | refine WA_seq ?_ | refine WA_block ?_ | (refine WA_skip ?_; try simp only [go_sem]) | (refine WA_ret ?_; try simp only [go_sem]) | refine WA_ct rfl ?_ | refine WA_cf rfl ?_))
    (exact sS0)
  · (refine sN0 ?_)
    (exact sR0)
theorem trc_op (m r : Int) (bx mx pl : Nat → UInt8) {h : List Blk} {b n : Nat} {f : Nat → UInt8} {rb : Bool} (hb : h[b]? = some ⟨Bs (n * 16) f, rb⟩) (hn : n ≤ 4) : ∃ (vI vS : Value) (code : Int) (H1 H2 : List Blk), (∃ A, H1 = h ++ A) ∧ (∃ A, H2 = H1 ++ A) ∧
    AC Tryz.prog 6 [.agg (Ci m bx mx pl r).toArray, sl b 0 n 16] h (.tuple #[vI, .int .i64 code]) H1 ∧ AC Tryz.prog 7 [.agg (Ci m bx mx pl r).toArray, sl b 0 n 16] H1 (.tuple #[vS, .int .i64 code]) H2 ∧
    AC Tryz.prog 8 [vI, vS] H2 (.bool true) H2 ∧ (isTup vI = false ∧ isTup vS = false) := by
  have hbl := blt hb
  cases hc : cipB m bx mx pl r
  · exact ⟨_, _, 1, h, h, ⟨[], (List.append_nil h).symm⟩, ⟨[], (List.append_nil h).symm⟩, trcI_no hc b n h, trcS_no hc b n h, lists9_nil h, ⟨rfl, rfl⟩⟩
  · by_cases ho : n < 2 ∨ 7 < n
    · exact ⟨_, _, 2, h, h, ⟨[], (List.append_nil h).symm⟩, ⟨[], (List.append_nil h).symm⟩, trcI_out hc b ho (by omega) h, trcS_out hc b ho (by omega) h, lists9_nil h, ⟨rfl, rfl⟩⟩
    · obtain ⟨k, rfl, h0, h1, _, _, hp, _⟩ := cipB_nat hc
      cases hok : allB (tcB k bx mx pl f n) (n - 1)
      · exact ⟨_, _, 4, h, h, ⟨[], (List.append_nil h).symm⟩, ⟨[], (List.append_nil h).symm⟩, trcI_bad h0 h1 hc hp hb (by omega) (by omega) hok, trcS_bad h0 h1 hc hp hb (by omega) (by omega) hok, lists9_nil h, ⟨rfl, rfl⟩⟩
      · obtain ⟨H1, bi, gi, hI, G1⟩ : ∃ H1 bi gi, AC Tryz.prog 6 [.agg (Ci k bx mx pl r).toArray, sl b 0 n 16] h (.tuple #[sl bi 0 (n - 1) 1, .int .i64 0]) H1 ∧ Grown h H1 bi (n - 1) gi (tcR k bx mx pl f n) 16 :=
          ⟨_, _, _, trcI_ok h0 h1 hc hp hb (by omega) (by omega) hok, grown_rows rfl⟩
        obtain ⟨H2, bs, gs, hS, G2⟩ : ∃ H2 bs gs, AC Tryz.prog 7 [.agg (Ci k bx mx pl r).toArray, sl b 0 n 16] H1 (.tuple #[sl bs 0 (n - 1) 1, .int .i64 0]) H2 ∧ Grown H1 H2 bs (n - 1) gs (tcR k bx mx pl f n) 16 :=
          ⟨_, _, _, trcS_ok h0 h1 hc hp (G1.old _ _ hb) (by omega) (by omega) hok, grown_rows rfl⟩
        have hE : AC Tryz.prog 8 [sl bi 0 (n - 1) 1, sl bs 0 (n - 1) 1] H2 (.bool true) H2 := lists9_ac (len := fun _ => 16) (F := tcF k bx mx pl f n) (G2.old _ _ G1.sp) G2.sp (fun j hj => G2.old _ _ (G1.row j hj)) G2.row (fun j _ => by show 16 ≤ 1000; omega) (by omega)
        exact ⟨_, _, 0, H1, H2, G1.app, G2.app, hI, hS, hE, ⟨rfl, rfl⟩⟩
theorem btr_op (m r : Int) (bx mx pl d : Nat → UInt8) (n : Int) (h : List Blk) : ∃ (vI vS : Value) (code : Int) (H1 H2 : List Blk), (∃ A, H1 = h ++ A) ∧ (∃ A, H2 = H1 ++ A) ∧
    AC Tryz.prog 10 [.agg (Ci m bx mx pl r).toArray, .agg (Bs 16 d).toArray, .int .i64 n] h (.tuple #[vI, .int .i64 code]) H1 ∧ AC Tryz.prog 11 [.agg (Ci m bx mx pl r).toArray, .agg (Bs 16 d).toArray, .int .i64 n] H1 (.tuple #[vS, .int .i64 code]) H2 ∧
    AC Tryz.prog 12 [vI, vS] H2 (.bool true) H2 ∧ (isTup vI = false ∧ isTup vS = false) ∧ (((code != 0) = true ∧ vI = .slice none 0 0) ∨ (code = 0 ∧ ∃ k q b : Nat, m = k ∧ n = q ∧ 1 ≤ q ∧ q ≤ 6 ∧ inR (q : Int) 1 6 = true ∧ 256 ≤ k ∧ k < 512 ∧ fieldB k = true ∧ cipB (k : Int) bx mx pl r = true ∧ boxOk bx = true ∧ plOk pl = true ∧ vI = sl b 0 (q + 1) 16 ∧ h.length ≤ b ∧ H2[b]? = some ⟨Bs ((q + 1) * 16) (trsF k bx mx pl d q), true⟩)) := by
  cases hc : cipB m bx mx pl r
  · exact ⟨_, _, 1, h, h, ⟨[], (List.append_nil h).symm⟩, ⟨[], (List.append_nil h).symm⟩, trailOI_no hc d n h, trailOS_no hc d n h, blk9_nil h, ⟨rfl, rfl⟩, .inl ⟨rfl, rfl⟩⟩
  · cases hr : inR n 1 6
    · exact ⟨_, _, 2, h, h, ⟨[], (List.append_nil h).symm⟩, ⟨[], (List.append_nil h).symm⟩, trailOI_out hc d hr h, trailOS_out hc d hr h, blk9_nil h, ⟨rfl, rfl⟩, .inl ⟨rfl, rfl⟩⟩
    · have hb : boxOk bx = true := by unfold cipB at hc; simp only [Bool.and_eq_true] at hc; exact hc.2.1
      obtain ⟨k, rfl, h0, h1, hf, _, hp, _⟩ := cipB_nat hc
      have hr2 := hr
      unfold inR at hr2
      simp only [Bool.and_eq_true, decide_eq_true_eq] at hr2
      obtain ⟨q, rfl⟩ : ∃ q : Nat, n = q := ⟨n.toNat, by omega⟩
      have hq1 : 1 ≤ q := by omega
      have hq2 : q ≤ 6 := by omega
      have g0 : (h ++ [(⟨Bs ((q + 1) * 16) (trsF k bx mx pl d q), true⟩ : Blk)] ++ [⟨Bs ((q + 1) * 16) (trsF k bx mx pl d q), true⟩])[h.length]? = some ⟨Bs ((q + 1) * 16) (trsF k bx mx pl d q), true⟩ := by simp
      have g1 : (h ++ [(⟨Bs ((q + 1) * 16) (trsF k bx mx pl d q), true⟩ : Blk)] ++ [⟨Bs ((q + 1) * 16) (trsF k bx mx pl d q), true⟩])[(h ++ [(⟨Bs ((q + 1) * 16) (trsF k bx mx pl d q), true⟩ : Blk)]).length]? = some ⟨Bs ((q + 1) * 16) (trsF k bx mx pl d q), true⟩ := by simp
      exact ⟨_, _, 0, _, _, ⟨_, rfl⟩, ⟨_, rfl⟩, trailOI_ok h0 h1 hc hp d hr hq1 hq2 h, trailOS_ok h0 h1 hc hp d hr hq2 _, blk9_ac g0 g1 (by omega), ⟨rfl, rfl⟩, .inr ⟨rfl, k, q, h.length, rfl, rfl, hq1, hq2, hr, h0, h1, hf, hc, hb, hp, rfl, Nat.le_refl _, g0⟩⟩
theorem lac_op (m r : Int) (bx mx pl : Nat → UInt8) (n : Int) : ∃ (v code : Int), (∀ h, AC Tryz.prog 14 [.agg (Ci m bx mx pl r).toArray, .int .i64 n] h (.tuple #[.int .i64 v, .int .i64 code]) h) ∧ (∀ h, AC Tryz.prog 15 [.agg (Ci m bx mx pl r).toArray, .int .i64 n] h (.tuple #[.int .i64 v, .int .i64 code]) h) ∧
    ((code == 0) = false ∨ (code = 0 ∧ n ≤ v)) := by
  cases hc : cipB m bx mx pl r
  · exact ⟨0, 1, fun h => lact_I_no hc n h, fun h => lact_S_no hc n h, .inl rfl⟩
  · cases hr : inR n 1 6
    · exact ⟨0, 2, fun h => lact_I_out hc hr h, fun h => lact_S_out hc hr h, .inl rfl⟩
    · obtain ⟨k, rfl, h0, h1, hf, hd, hp, _⟩ := cipB_nat hc
      have hr2 := hr
      unfold inR at hr2
      simp only [Bool.and_eq_true, decide_eq_true_eq] at hr2
      obtain ⟨q, rfl⟩ : ∃ q : Nat, n = q := ⟨n.toNat, by omega⟩
      have hq1 : 1 ≤ q := by omega
      have hq2 : q ≤ 6 := by omega
      have he := least_eq hp (paN k mx) (paLen k mx) (show q - 1 ≤ 20 by omega)
      refine ⟨lsF (itS pl (paN k mx) (paLen k mx) (q - 1)) 65536, 0, fun h => ?_, fun h => lact_S_op h0 h1 hf hc hp hr hq1 hq2 h, .inr ⟨rfl, ?_⟩⟩
      · rw [he]; exact lact_I_op h0 h1 hf hc hp hr hq1 hq2 h
      · have := least_lo h0 h1 hf hd hp (r := q - 1) (by omega)
        rw [show q - 1 + 1 = q by omega] at this
        exact this
theorem pao_op (m r : Int) (bx mx pl : Nat → UInt8) (h : List Blk) : ∃ (vI vS : Value) (code : Int) (H1 H2 : List Blk), (∃ A, H1 = h ++ A) ∧ (∃ A, H2 = H1 ++ A) ∧
    AC Tryz.prog 17 [.agg (Ci m bx mx pl r).toArray] h (.tuple #[vI, .int .i64 code]) H1 ∧ AC Tryz.prog 18 [.agg (Ci m bx mx pl r).toArray] H1 (.tuple #[vS, .int .i64 code]) H2 ∧
    AC Tryz.prog 8 [vI, vS] H2 (.bool true) H2 ∧ (isTup vI = false ∧ isTup vS = false) ∧
    ((code == 0) = false ∨ (code = 0 ∧ ∃ (b : Nat) (g len : Nat → Nat) (F : Nat → Nat → Int), vI = sl b 0 16 1 ∧ H2[b]? = some ⟨Vs 16 fun j => sl (g j) 0 (len j) 1, true⟩ ∧ len 0 = 1 ∧ H2[g 0]? = some ⟨Is 1 fun _ => 0, true⟩ ∧ 0 < len 15 ∧ len 15 ≤ 1000)) := by
  cases hc : cipB m bx mx pl r
  · exact ⟨_, _, 1, h, h, ⟨[], (List.append_nil h).symm⟩, ⟨[], (List.append_nil h).symm⟩, paoI_no hc h, paoS_no hc h, lists9_nil h, ⟨rfl, rfl⟩, .inl rfl⟩
  · obtain ⟨k, rfl, h0, h1, hf, hd, hp, _⟩ := cipB_nat hc
    obtain ⟨H1, bi, gi, G1, hI⟩ := paoI_op h0 h1 hf hc h
    obtain ⟨H2, bs, gs, G2, hS⟩ := paoS_op h0 h1 hf hc H1
    have hE : AC Tryz.prog 8 [sl bi 0 16 1, sl bs 0 16 1] H2 (.bool true) H2 := lists9_ac (len := paLen k mx) (F := paF k mx) (G2.old _ _ G1.sp) G2.sp (fun j hj => G2.old _ _ (G1.row j hj)) G2.row (fun j _ => paLen_le k mx j) (by omega)
    have hrow := G2.old _ _ (G1.row 0 (by omega))
    obtain ⟨e1, e2⟩ := pa_zero k mx
    rw [e1, Is_congr (n := 1) (g := fun _ => (0 : Int)) fun i hi => by rw [show i = 0 by omega]; exact e2] at hrow
    exact ⟨_, _, 0, H1, H2, G1.app, G2.app, hI, hS, hE, ⟨rfl, rfl⟩, .inr ⟨rfl, bi, gi, paLen k mx, paF k mx, rfl, G2.old _ _ G1.sp, e1, hrow, pa_some k mx, paLen_le k mx 15⟩⟩
theorem pai_op (m r : Int) (bx mx pl y b : Nat → UInt8) (i : Int) (d e : Nat → UInt8) (n : Int) : ∃ (v code : Int), (∀ h, AC Tryz.prog 21 [.agg (Ci m bx mx pl r).toArray, .agg (Bs 16 y).toArray, .agg (Bs 16 b).toArray, .int .i64 i, .agg (Bs 16 d).toArray, .agg (Bs 16 e).toArray, .int .i64 n] h (.tuple #[.int .i64 v, .int .i64 code]) h) ∧
    (∀ h, AC Tryz.prog 22 [.agg (Ci m bx mx pl r).toArray, .agg (Bs 16 y).toArray, .agg (Bs 16 b).toArray, .int .i64 i, .agg (Bs 16 d).toArray, .agg (Bs 16 e).toArray, .int .i64 n] h (.tuple #[.int .i64 v, .int .i64 code]) h) ∧ 0 ≤ v ∧ v ≤ 256 := by
  cases hc : cipB m bx mx pl r
  · exact ⟨0, 1, fun h => pairI_no hc y b d e i n h, fun h => pairS_no hc y b d e i n h, by omega, by omega⟩
  · cases ho : inR n 0 r && inR i 0 15
    · exact ⟨0, 2, fun h => pairI_out hc y b d e ho h, fun h => pairS_out hc y b d e ho h, by omega, by omega⟩
    · rw [Bool.and_eq_true] at ho
      obtain ⟨p, rfl, h0, h1, _, _, hp, q, rfl, _, hq⟩ := cipB_nat hc
      obtain ⟨k, rfl, hk⟩ := inR_nat0 ho.1
      obtain ⟨j, rfl, hj⟩ := inR_nat0 ho.2
      have hl := cntP_le (pairF p bx mx pl y b d e k j) 256
      exact ⟨_, 0, fun h => pairI_ok h0 h1 hc hp y b d e ho.1 ho.2 (by omega) (by omega) h, fun h => pairS_ok h0 h1 hc hp y b d e ho.1 ho.2 (by omega) (by omega) h, by omega, by omega⟩

end Go.Proofs.YtenkjbkcdcionaaGreat
/- FnTrails. -/
namespace Go.Proofs.YtenkjbkcdcionaaGreat
set_option linter.unusedSimpArgs false
set_option linter.unusedVariables false
set_option maxRecDepth 20000
set_option maxHeartbeats 1000000
open Go.Abs

def actS (T : Nat → Nat → UInt8) : Nat → Nat
  | 0 => 0
  | k + 1 => actS T k + cntA (T k) 16
theorem actS_zero (T : Nat → Nat → UInt8) : actS T 0 = 0 := rfl
theorem actS_succ (T : Nat → Nat → UInt8) (k : Nat) : actS T (k + 1) = actS T k + cntA (T k) 16 := rfl
theorem actS_le (T : Nat → Nat → UInt8) : ∀ k, actS T k ≤ k * 16
  | 0 => Nat.le_refl _
  | k + 1 => by have := actS_le T k; have := cntA_le (T k) 16; rw [actS, Nat.succ_mul]; omega
theorem cntA_cong {f g : Nat → UInt8} : ∀ k, (∀ i, i < k → f i = g i) → cntA f k = cntA g k
  | 0, _ => rfl
  | k + 1, h => by rw [cntA_succ, cntA_succ, cntA_cong k fun i hi => h i (by omega), h k (by omega)]
theorem actS_cong {T U : Nat → Nat → UInt8} (h : ∀ r i, i < 16 → T r i = U r i) : ∀ k, actS T k = actS U k
  | 0 => rfl
  | k + 1 => by rw [actS, actS, actS_cong h k, cntA_cong 16 fun i hi => h k i hi]
theorem spS_act (T : Nat → Nat → UInt8) : ∀ n, spS (fun r => acM (T r) 16) n = actS T (n + 1)
  | 0 => by
    show popP (acM (T 0) 16) 16 = 0 + cntA (T 0) 16
    rw [acM_pop _ 16 (Nat.le_refl _), Nat.zero_add]
  | n + 1 => by
    show spS _ n + popP (acM (T (n + 1)) 16) 16 = actS T (n + 1) + cntA (T (n + 1)) 16
    rw [spS_act T n, acM_pop _ 16 (Nat.le_refl _)]
theorem trs_row (m : Nat) (bx mx pl d : Nat → UInt8) (n r i : Nat) (hi : i < 16) : trsF m bx mx pl d n (r * 16 + i) = trF m bx mx pl d n r i := by
  unfold trsF; rw [show (r * 16 + i) / 16 = r by omega, show (r * 16 + i) % 16 = i by omega]
theorem act_bound {k q : Nat} {bx mx pl d : Nat → UInt8} (hb : boxOk bx = true) (hp : plOk pl = true) (hq : 1 ≤ q) (hd : eqB 16 d (fun _ => 0) = false) :
    lsF (itS pl (paN k mx) (paLen k mx) (q - 1)) 65536 ≤ ((actS (fun r t => trsF k bx mx pl d q (r * 16 + t)) q : Nat) : Int) := by
  obtain ⟨j, hj, h0⟩ : ∃ j, j < 16 ∧ d j ≠ 0 := Classical.byContradiction fun hn => by
    have : eqB 16 d (fun _ => 0) = true := eqB_iff.2 fun i hi => Classical.byContradiction fun h => hn ⟨i, hi, h⟩
    rw [hd] at this; cases this
  have h := trail_le (m := k) hb hp (mx := mx) (T := trF k bx mx pl d q) (n := q - 1) (fun r hr => by
    show layF k mx pl (bsF bx (trF k bx mx pl d q r)) (r + 1 == q) = _
    rw [show (r + 1 == q) = false by simp; omega]) hj h0
  rw [spS_act, show q - 1 + 1 = q by omega] at h
  rw [actS_cong fun r i hi => trs_row k bx mx pl d q r i hi]
  exact h
attribute [local irreducible] lsF mnF itS itI paN paLen actS cntA trsF trF
set_option maxHeartbeats 16000000 in
theorem fnTrails_ok {h : List Blk} {cv : Value} (c : Cv h cv) : AC Tryz.prog 3 [cv] h (.bool true) h := by
  have hbg := big_ac c
  obtain ⟨m1, bx1, mx1, pl1, f1, r1, n1, b1, rb1, H1, hr1, hn1, hb1, e1, v1, d1⟩ := drTrc_op c
  obtain ⟨K1, hK1⟩ : ∃ M, M = H1 ++ [⟨Ci m1 bx1 mx1 pl1 r1, true⟩] := ⟨_, rfl⟩
  have k10 : K1[H1.length]? = some ⟨Ci m1 bx1 mx1 pl1 r1, true⟩ := by rw [hK1]; simp
  have k11 : K1[b1]? = some ⟨Bs (n1 * 16) f1, rb1⟩ := by rw [hK1]; exact look_old hb1 _
  have lH1 := app_len e1
  have EK1 : ∃ A, K1 = h ++ A := by rw [hK1]; exact app_app e1
  have nK1 := app_len EK1
  obtain ⟨vA, vB, cA, HA, HB, eA, eB, dA, dB, dC, ⟨tA, tB⟩⟩ := trc_op m1 r1 bx1 mx1 pl1 k11 hn1
  have EB := app_tr eA eB
  have a0 : HA[H1.length]? = some ⟨Ci m1 bx1 mx1 pl1 r1, true⟩ := by obtain ⟨A, e⟩ := eA; rw [e]; exact look_old k10 A
  have EHB := app_tr EK1 EB
  have nHB := app_len EHB
  obtain ⟨m2, bx2, mx2, pl2, d2, r2, n2, H2, hr2, e2, v2, q2⟩ := drBtr_op (cv_app c EHB : Cv HB cv)
  obtain ⟨K2, hK2⟩ : ∃ M, M = H2 ++ [⟨Ci m2 bx2 mx2 pl2 r2, true⟩, ⟨Bs 16 d2, true⟩] := ⟨_, rfl⟩
  have k20 : K2[H2.length]? = some ⟨Ci m2 bx2 mx2 pl2 r2, true⟩ := by rw [hK2]; simp
  have k21 : K2[H2.length + 1]? = some ⟨Bs 16 d2, true⟩ := by rw [hK2]; simp
  have EH2 : ∃ A, K2 = HB ++ A := by rw [hK2]; exact app_app e2
  have EK2 := app_tr EHB EH2
  have nK2 := app_len EK2
  have nH2 := app_len (app_tr EHB e2)
  obtain ⟨vC, vD, cC, HC, HD, eC, eD, dD, dE, dF, ⟨tC, tD⟩, pC⟩ := btr_op m2 r2 bx2 mx2 pl2 d2 n2 K2
  have u0 : HC[H2.length]? = some ⟨Ci m2 bx2 mx2 pl2 r2, true⟩ := by obtain ⟨A, e⟩ := eC; rw [e]; exact look_old k20 A
  have u1 : HC[H2.length + 1]? = some ⟨Bs 16 d2, true⟩ := by obtain ⟨A, e⟩ := eC; rw [e]; exact look_old k21 A
  have EHD := app_tr EK2 (app_tr eC eD)
  have nHD := app_len EHD
  obtain ⟨m3, bx3, mx3, pl3, r3, n3, H3, hr3, e3, v3, q3⟩ := drLac_op (cv_app c EHD : Cv HD cv)
  obtain ⟨K3, hK3⟩ : ∃ M, M = H3 ++ [⟨Ci m3 bx3 mx3 pl3 r3, true⟩] := ⟨_, rfl⟩
  have k30 : K3[H3.length]? = some ⟨Ci m3 bx3 mx3 pl3 r3, true⟩ := by rw [hK3]; simp
  have EH3 : ∃ A, K3 = HD ++ A := by rw [hK3]; exact app_app e3
  have EK3 := app_tr EHD EH3
  have nK3 := app_len EK3
  have nH3 := app_len (app_tr EHD e3)
  obtain ⟨w3, c3, dG, dH, p3⟩ := lac_op m3 r3 bx3 mx3 pl3 n3
  obtain ⟨m4, bx4, mx4, pl4, r4, H4, hr4, e4, v4, q4⟩ := drPao_op (cv_app c EK3 : Cv K3 cv)
  obtain ⟨K4, hK4⟩ : ∃ M, M = H4 ++ [⟨Ci m4 bx4 mx4 pl4 r4, true⟩] := ⟨_, rfl⟩
  have k40 : K4[H4.length]? = some ⟨Ci m4 bx4 mx4 pl4 r4, true⟩ := by rw [hK4]; simp
  have EH4 : ∃ A, K4 = K3 ++ A := by rw [hK4]; exact app_app e4
  have EK4 := app_tr EK3 EH4
  have nK4 := app_len EK4
  have nH4 := app_len (app_tr EK3 e4)
  obtain ⟨vE, vF, cE, HE, HF, eE, eF, dI, dJ, dK, ⟨tE, tF⟩, pE⟩ := pao_op m4 r4 bx4 mx4 pl4 K4
  have w0 : HE[H4.length]? = some ⟨Ci m4 bx4 mx4 pl4 r4, true⟩ := by obtain ⟨A, e⟩ := eE; rw [e]; exact look_old k40 A
  have EHF := app_tr EK4 (app_tr eE eF)
  have nHF := app_len EHF
  obtain ⟨m5, bx5, mx5, pl5, y5, s5, d5, f5, r5, i5, n5, H5, hr5, e5, v5, q5⟩ := drPai_op (cv_app c EHF : Cv HF cv)
  obtain ⟨K5, hK5⟩ : ∃ M, M = H5 ++ [⟨Ci m5 bx5 mx5 pl5 r5, true⟩, ⟨Bs 16 y5, true⟩, ⟨Bs 16 s5, true⟩, ⟨Bs 16 d5, true⟩, ⟨Bs 16 f5, true⟩] := ⟨_, rfl⟩
  have k50 : K5[H5.length]? = some ⟨Ci m5 bx5 mx5 pl5 r5, true⟩ := by rw [hK5]; simp
  have k51 : K5[H5.length + 1]? = some ⟨Bs 16 y5, true⟩ := by rw [hK5]; simp
  have k52 : K5[H5.length + 2]? = some ⟨Bs 16 s5, true⟩ := by rw [hK5]; simp
  have k53 : K5[H5.length + 3]? = some ⟨Bs 16 d5, true⟩ := by rw [hK5]; simp
  have k54 : K5[H5.length + 4]? = some ⟨Bs 16 f5, true⟩ := by rw [hK5]; simp
  have EH5 : ∃ A, K5 = HF ++ A := by rw [hK5]; exact app_app e5
  have EK5 := app_tr EHF EH5
  have nK5 := app_len EK5
  have nH5 := app_len (app_tr EHF e5)
  obtain ⟨w5, c5, dL, dM, p50, p51⟩ := pai_op m5 r5 bx5 mx5 pl5 y5 s5 i5 d5 f5 n5
  have E25 : ∃ A, K5 = K2 ++ A := app_tr (app_tr (app_tr (app_tr eC eD) EH3) EH4) (app_tr (app_tr eE eF) EH5)
  have x0 : K5[H2.length]? = some ⟨Ci m2 bx2 mx2 pl2 r2, true⟩ := by obtain ⟨A, e⟩ := E25; rw [e]; exact look_old k20 A
  have x1 : K5[H2.length + 1]? = some ⟨Bs 16 d2, true⟩ := by obtain ⟨A, e⟩ := E25; rw [e]; exact look_old k21 A
  have EDF : ∃ A, HF = HD ++ A := app_tr (app_tr EH3 EH4) (app_tr eE eF)
  have E2F : ∃ A, HF = K2 ++ A := app_tr (app_tr eC eD) EDF
  have z1 : H2.length + 1 < HF.length := by obtain ⟨A, e⟩ := E2F; exact blt (show HF[H2.length + 1]? = _ by rw [e]; exact look_old k21 A)
  have ovF : OldV HF.length cv := c.old nHF
  have ovC : OldV HF.length vC := by
    rcases pC with ⟨_, rfl⟩ | ⟨_, _, q, bC, _, _, _, _, _, _, _, _, _, _, _, rfl, _, hkC⟩
    · exact OldV_plain rfl
    · obtain ⟨A, e⟩ := EDF
      exact OldV_sl (blt (show HF[bC]? = _ by rw [e]; exact look_old hkC A))
  have ED5 : ∃ A, K5 = HD ++ A := app_tr (app_tr EH3 EH4) (app_tr (app_tr eE eF) EH5)
  obtain ⟨A5, hA5⟩ := EK5
  have g51 : decide (w5 < 0) = false := decide_eq_false (by omega)
  have g52 : decide (256 < w5) = false := decide_eq_false (by omega)
  (refine AC_begin (fun _ _ => Tryz.call3 _ _) Tryz.func3 rfl Tryz.ntmps3 Tryz.results3 (fun hwf => ?_); simp only [LCN, Nat.reduceAdd, Nat.reduceSub, List.replicate])
  (repeat (first | ((first | (refine And.intro ?_ ?_; focus exact PLA) | ((first | with_reducible apply callB_i | with_reducible apply callK_intro | with_reducible apply callQ_i); (focus (first | assumption | ((first | with_reducible apply hbg | with_reducible apply d1) <;> (first | assumption | rfl | (simp (disch := omega) only [go_sem]; first | done | rfl) | omega | decide | (simp; done))))); (try exact WP_au)) | refine WA_seq (WA_region (id := 0) ?_) | refine WA_region (id := 0) ?_ | refine WA_seq (WA_region (id := 1) ?_) | refine WA_region (id := 1) ?_ | refine WA_seq (WA_region (id := 3) ?_) | refine WA_region (id := 3) ?_ | refine WA_exit ?_); try simp (maxSteps := 1000000) (disch := first | omega | rfl | decide | (simp only [LX] <;> omega)) only [go_sem, Nat.reduceAdd, Int.reduceAdd, Int.reduceSub, Int.reduceMul, BNS, bne_self_eq_false, Ci_stC, Ci_splice_all, Bool.not_true, yieldA_at 2 126, yieldA_at 2 154, yieldA_at 2 224, yieldA_at 2 255, yieldA_at 3 64, yieldA_at 3 93, yieldA_at 3 119, yieldA_at 3 146, yieldA_at 3 209, yieldA_at 6 158, yieldA_at 7 229, yieldA_at 8 214, yieldA_at 12 218, yieldA_at 14 166]) | refine WA_seq ?_ | refine WA_block ?_ | (refine WA_skip ?_; try simp only [go_sem]) | (refine WA_ret ?_; try simp only [go_sem]) | refine WA_ct rfl ?_ | refine WA_cf rfl ?_))
  rw [← hK1]
  (repeat (first | ((first | (refine And.intro ?_ ?_; focus exact PLA) | ((first | with_reducible apply callB_i | with_reducible apply callK_intro | with_reducible apply callQ_i); (focus (first | assumption | ((first | with_reducible apply dA | with_reducible apply dB | with_reducible apply dC) <;> (first | assumption | rfl | (simp (disch := omega) only [go_sem]; first | done | rfl) | omega | decide | (simp; done))))); (try exact WP_au)) | refine WA_seq (WA_region (id := 4) ?_) | refine WA_region (id := 4) ?_ | refine WA_seq (WA_region (id := 5) ?_) | refine WA_region (id := 5) ?_ | refine WA_seq (WA_region (id := 6) ?_) | refine WA_region (id := 6) ?_ | refine WA_exit ?_); try simp (maxSteps := 1000000) (disch := first | omega | rfl | decide | (simp only [LX] <;> omega)) only [go_sem, Nat.reduceAdd, Int.reduceAdd, Int.reduceSub, Int.reduceMul, BNS, bne_self_eq_false, Ci_stC, Ci_splice_all, Bool.not_true, k10, a0, yieldA_at 2 126, yieldA_at 2 154, yieldA_at 2 224, yieldA_at 2 255, yieldA_at 3 64, yieldA_at 3 93, yieldA_at 3 119, yieldA_at 3 146, yieldA_at 3 209, yieldA_at 6 158, yieldA_at 7 229, yieldA_at 8 214, yieldA_at 12 218, yieldA_at 14 166]) | refine WA_seq ?_ | refine WA_block ?_ | (refine WA_skip ?_; try simp only [go_sem]) | (refine WA_ret ?_; try simp only [go_sem]) | refine WA_ct rfl ?_ | refine WA_cf rfl ?_))
  (repeat (first | ((first | (refine And.intro ?_ ?_; focus exact PLA) | ((first | with_reducible apply callB_i | with_reducible apply callK_intro | with_reducible apply callQ_i); (focus (first | assumption | (with_reducible apply q2 <;> (first | assumption | rfl | (simp (disch := omega) only [go_sem]; first | done | rfl) | omega | decide | (simp; done))))); (try exact WP_au)) | refine WA_seq (WA_region (id := 8) ?_) | refine WA_region (id := 8) ?_ | refine WA_exit ?_); try simp (maxSteps := 1000000) (disch := first | omega | rfl | decide | (simp only [LX] <;> omega)) only [go_sem, Nat.reduceAdd, Int.reduceAdd, Int.reduceSub, Int.reduceMul, BNS, bne_self_eq_false, Ci_stC, Ci_splice_all, Bool.not_true, yieldA_at 2 126, yieldA_at 2 154, yieldA_at 2 224, yieldA_at 2 255, yieldA_at 3 64, yieldA_at 3 93, yieldA_at 3 119, yieldA_at 3 146, yieldA_at 3 209, yieldA_at 6 158, yieldA_at 7 229, yieldA_at 8 214, yieldA_at 12 218, yieldA_at 14 166]) | refine WA_seq ?_ | refine WA_block ?_ | (refine WA_skip ?_; try simp only [go_sem]) | (refine WA_ret ?_; try simp only [go_sem]) | refine WA_ct rfl ?_ | refine WA_cf rfl ?_))
  rw [← hK2]
  (repeat (first | ((first | (refine And.intro ?_ ?_; focus exact PLA) | ((first | with_reducible apply callB_i | with_reducible apply callK_intro | with_reducible apply callQ_i); (focus (first | assumption | ((first | with_reducible apply dD | with_reducible apply dE | with_reducible apply dF) <;> (first | assumption | rfl | (simp (disch := omega) only [go_sem]; first | done | rfl) | omega | decide | (simp; done))))); (try exact WP_au)) | refine WA_seq (WA_region (id := 9) ?_) | refine WA_region (id := 9) ?_ | refine WA_seq (WA_region (id := 10) ?_) | refine WA_region (id := 10) ?_ | refine WA_seq (WA_region (id := 11) ?_) | refine WA_region (id := 11) ?_ | refine WA_exit ?_); try simp (maxSteps := 1000000) (disch := first | omega | rfl | decide | (simp only [LX] <;> omega)) only [go_sem, Nat.reduceAdd, Int.reduceAdd, Int.reduceSub, Int.reduceMul, BNS, bne_self_eq_false, Ci_stC, Ci_splice_all, Bool.not_true, k20, k21, u0, u1, yieldA_at 2 126, yieldA_at 2 154, yieldA_at 2 224, yieldA_at 2 255, yieldA_at 3 64, yieldA_at 3 93, yieldA_at 3 119, yieldA_at 3 146, yieldA_at 3 209, yieldA_at 6 158, yieldA_at 7 229, yieldA_at 8 214, yieldA_at 12 218, yieldA_at 14 166]) | refine WA_seq ?_ | refine WA_block ?_ | (refine WA_skip ?_; try simp only [go_sem]) | (refine WA_ret ?_; try simp only [go_sem]) | refine WA_ct rfl ?_ | refine WA_cf rfl ?_))
  (repeat (first | ((first | (refine And.intro ?_ ?_; focus exact PLA) | ((first | with_reducible apply callB_i | with_reducible apply callK_intro | with_reducible apply callQ_i); (focus (first | assumption | (with_reducible apply q3 <;> (first | assumption | rfl | (simp (disch := omega) only [go_sem]; first | done | rfl) | omega | decide | (simp; done))))); (try exact WP_au)) | refine WA_seq (WA_region (id := 13) ?_) | refine WA_region (id := 13) ?_ | refine WA_exit ?_); try simp (maxSteps := 1000000) (disch := first | omega | rfl | decide | (simp only [LX] <;> omega)) only [go_sem, Nat.reduceAdd, Int.reduceAdd, Int.reduceSub, Int.reduceMul, BNS, bne_self_eq_false, Ci_stC, Ci_splice_all, Bool.not_true, yieldA_at 2 126, yieldA_at 2 154, yieldA_at 2 224, yieldA_at 2 255, yieldA_at 3 64, yieldA_at 3 93, yieldA_at 3 119, yieldA_at 3 146, yieldA_at 3 209, yieldA_at 6 158, yieldA_at 7 229, yieldA_at 8 214, yieldA_at 12 218, yieldA_at 14 166]) | refine WA_seq ?_ | refine WA_block ?_ | (refine WA_skip ?_; try simp only [go_sem]) | (refine WA_ret ?_; try simp only [go_sem]) | refine WA_ct rfl ?_ | refine WA_cf rfl ?_))
  rw [← hK3]
  (repeat (first | ((first | (refine And.intro ?_ ?_; focus exact PLA) | ((first | with_reducible apply callB_i | with_reducible apply callK_intro | with_reducible apply callQ_i); (focus (first | assumption | ((first | with_reducible apply dG | with_reducible apply dH) <;> (first | assumption | rfl | (simp (disch := omega) only [go_sem]; first | done | rfl) | omega | decide | (simp; done))))); (try exact WP_au)) | refine WA_seq (WA_region (id := 14) ?_) | refine WA_region (id := 14) ?_ | refine WA_seq (WA_region (id := 15) ?_) | refine WA_region (id := 15) ?_ | refine WA_seq (WA_region (id := 16) ?_) | refine WA_region (id := 16) ?_ | refine WA_exit ?_); try simp (maxSteps := 1000000) (disch := first | omega | rfl | decide | (simp only [LX] <;> omega)) only [go_sem, Nat.reduceAdd, Int.reduceAdd, Int.reduceSub, Int.reduceMul, BNS, bne_self_eq_false, Ci_stC, Ci_splice_all, Bool.not_true, k30, yieldA_at 2 126, yieldA_at 2 154, yieldA_at 2 224, yieldA_at 2 255, yieldA_at 3 64, yieldA_at 3 93, yieldA_at 3 119, yieldA_at 3 146, yieldA_at 3 209, yieldA_at 6 158, yieldA_at 7 229, yieldA_at 8 214, yieldA_at 12 218, yieldA_at 14 166]) | refine WA_seq ?_ | refine WA_block ?_ | (refine WA_skip ?_; try simp only [go_sem]) | (refine WA_ret ?_; try simp only [go_sem]) | refine WA_ct rfl ?_ | refine WA_cf rfl ?_))
  refine WA_mid2 [(2, J), (124, J), (125, J), (126, J), (127, J), (128, J), (129, J), (130, J)] (K3) ?_ ?_ <;> (try simp only [PTS])
  · rcases p3 with hz | ⟨rfl, hle⟩
    · (refine sN (And.intro @hz (And.intro (@yieldA_at 2 126) (And.intro (@yieldA_at 2 154) (And.intro (@yieldA_at 2 224) (And.intro (@yieldA_at 2 255) (And.intro (@yieldA_at 3 64) (And.intro (@yieldA_at 3 93) (And.intro (@yieldA_at 3 119) (And.intro (@yieldA_at 3 146) (And.intro (@yieldA_at 3 209) (And.intro (@yieldA_at 6 158) (And.intro (@yieldA_at 7 229) (And.intro (@yieldA_at 8 214) (And.intro (@yieldA_at 12 218) (@yieldA_at 14 166))))))))))))))) ?_)
      (exact sA0)
    · have g3 : decide (w3 < n3) = false := decide_eq_false (by omega)
      (refine sN (And.intro @g3 (And.intro (@yieldA_at 2 126) (And.intro (@yieldA_at 2 154) (And.intro (@yieldA_at 2 224) (And.intro (@yieldA_at 2 255) (And.intro (@yieldA_at 3 64) (And.intro (@yieldA_at 3 93) (And.intro (@yieldA_at 3 119) (And.intro (@yieldA_at 3 146) (And.intro (@yieldA_at 3 209) (And.intro (@yieldA_at 6 158) (And.intro (@yieldA_at 7 229) (And.intro (@yieldA_at 8 214) (And.intro (@yieldA_at 12 218) (@yieldA_at 14 166))))))))))))))) ?_)
      (exact sA0)
  (repeat (first | ((first | (refine And.intro ?_ ?_; focus exact PLA) | ((first | with_reducible apply callB_i | with_reducible apply callK_intro | with_reducible apply callQ_i); (focus (first | assumption | (with_reducible apply q4 <;> (first | assumption | rfl | (simp (disch := omega) only [go_sem]; first | done | rfl) | omega | decide | (simp; done))))); (try exact WP_au)) | refine WA_seq (WA_region (id := 20) ?_) | refine WA_region (id := 20) ?_ | refine WA_exit ?_); try simp (maxSteps := 1000000) (disch := first | omega | rfl | decide | (simp only [LX] <;> omega)) only [go_sem, Nat.reduceAdd, Int.reduceAdd, Int.reduceSub, Int.reduceMul, BNS, bne_self_eq_false, Ci_stC, Ci_splice_all, Bool.not_true, yieldA_at 2 126, yieldA_at 2 154, yieldA_at 2 224, yieldA_at 2 255, yieldA_at 3 64, yieldA_at 3 93, yieldA_at 3 119, yieldA_at 3 146, yieldA_at 3 209, yieldA_at 6 158, yieldA_at 7 229, yieldA_at 8 214, yieldA_at 12 218, yieldA_at 14 166]) | refine WA_seq ?_ | refine WA_block ?_ | (refine WA_skip ?_; try simp only [go_sem]) | (refine WA_ret ?_; try simp only [go_sem]) | refine WA_ct rfl ?_ | refine WA_cf rfl ?_))
  rw [← hK4]
  (repeat (first | ((first | (refine And.intro ?_ ?_; focus exact PLA) | ((first | with_reducible apply callB_i | with_reducible apply callK_intro | with_reducible apply callQ_i); (focus (first | assumption | ((first | with_reducible apply dI | with_reducible apply dJ | with_reducible apply dK) <;> (first | assumption | rfl | (simp (disch := omega) only [go_sem]; first | done | rfl) | omega | decide | (simp; done))))); (try exact WP_au)) | refine WA_seq (WA_region (id := 21) ?_) | refine WA_region (id := 21) ?_ | refine WA_seq (WA_region (id := 22) ?_) | refine WA_region (id := 22) ?_ | refine WA_seq (WA_region (id := 23) ?_) | refine WA_region (id := 23) ?_ | refine WA_exit ?_); try simp (maxSteps := 1000000) (disch := first | omega | rfl | decide | (simp only [LX] <;> omega)) only [go_sem, Nat.reduceAdd, Int.reduceAdd, Int.reduceSub, Int.reduceMul, BNS, bne_self_eq_false, Ci_stC, Ci_splice_all, Bool.not_true, k40, w0, yieldA_at 2 126, yieldA_at 2 154, yieldA_at 2 224, yieldA_at 2 255, yieldA_at 3 64, yieldA_at 3 93, yieldA_at 3 119, yieldA_at 3 146, yieldA_at 3 209, yieldA_at 6 158, yieldA_at 7 229, yieldA_at 8 214, yieldA_at 12 218, yieldA_at 14 166]) | refine WA_seq ?_ | refine WA_block ?_ | (refine WA_skip ?_; try simp only [go_sem]) | (refine WA_ret ?_; try simp only [go_sem]) | refine WA_ct rfl ?_ | refine WA_cf rfl ?_))
  refine WA_wf fun hwfF => ?_
  refine WA_mid2 [(2, J), (3, J), (4, J), (5, J), (6, J), (7, J), (8, J), (9, pt H2.length 0), (10, pt (H2.length + 1) 0), (11, .int .i64 n2), (12, vC), (13, .int .i64 cC), (14, J), (15, J), (16, J), (17, J), (18, J), (19, J), (20, J), (21, J), (22, J), (23, J), (24, J), (25, J), (26, J), (44, J), (45, J), (46, J), (47, J), (48, J), (49, J), (50, J), (51, J), (52, J), (53, J), (54, J), (55, J), (56, J), (57, J), (58, J), (59, J), (60, J), (61, J), (62, J), (63, J), (64, J), (65, J), (66, J), (67, J), (68, J), (69, J), (70, J), (71, J), (72, J), (73, J), (74, J), (75, J), (76, J), (77, J), (78, J), (79, J), (80, J), (81, J), (82, J), (83, J), (84, J), (85, J), (86, J), (87, J), (88, J), (89, J), (90, J), (91, J), (92, J), (93, J), (94, J), (95, J), (96, J), (97, J), (98, J), (99, J), (100, J), (101, J), (102, J), (103, J), (104, J), (105, J), (106, J), (107, J), (108, J), (109, J), (110, J), (111, J), (112, J), (113, J), (114, J), (115, J), (116, J), (117, J), (118, J), (119, J), (120, J), (121, J), (122, J), (123, J), (124, J), (125, J), (126, J), (127, J), (128, J), (129, J), (130, J), (131, J), (132, J), (133, J), (134, J), (135, J), (136, J), (137, J), (138, J), (139, J), (140, J), (141, J), (142, J), (143, J), (144, J), (145, J), (146, J), (147, J), (148, J), (149, J), (150, J), (151, J), (152, J), (153, J), (154, J), (155, J), (156, J), (157, J), (158, J), (159, J), (160, J), (161, J), (162, J), (163, J), (164, J), (165, J), (166, J), (167, J), (168, J), (169, J), (170, J), (171, J), (172, J), (173, J)] (HF) ?_ ?_ <;> (try simp only [PTS])
  · rcases pE with hz | ⟨rfl, bE, gE, lE, FE, rfl, hsp, hl0, hrow, hl1, hl2⟩
    · (refine sN (And.intro @hz (And.intro (@yieldA_at 2 126) (And.intro (@yieldA_at 2 154) (And.intro (@yieldA_at 2 224) (And.intro (@yieldA_at 2 255) (And.intro (@yieldA_at 3 64) (And.intro (@yieldA_at 3 93) (And.intro (@yieldA_at 3 119) (And.intro (@yieldA_at 3 146) (And.intro (@yieldA_at 3 209) (And.intro (@yieldA_at 6 158) (And.intro (@yieldA_at 7 229) (And.intro (@yieldA_at 8 214) (And.intro (@yieldA_at 12 218) (@yieldA_at 14 166))))))))))))))) ?_)
      (exact sA0)
    · have hq : AC Tryz.prog 19 [sl (gE 0) 0 1 1, sl HF.length 0 1 1] (HF ++ [⟨Is 1 fun _ => 0, true⟩]) (.bool true) (HF ++ [⟨Is 1 fun _ => 0, true⟩]) := likeT_ac (look_old hrow _) (r' := true) (by simp) (by omega)
      have hI1 : Is 1 (fun _ => (0 : Int)) = [.int .i64 0] := rfl
      rw [hI1] at hq
      have g15 : (lE 15 == 0) = false := by rw [beq_eq_false_iff_ne]; omega
      (refine sW (And.intro @hsp (And.intro (look_old hsp) (And.intro @hl0 (And.intro @lit1 (And.intro @g15 (And.intro (@yieldA_at 2 126) (And.intro (@yieldA_at 2 154) (And.intro (@yieldA_at 2 224) (And.intro (@yieldA_at 2 255) (And.intro (@yieldA_at 3 64) (And.intro (@yieldA_at 3 93) (And.intro (@yieldA_at 3 119) (And.intro (@yieldA_at 3 146) (And.intro (@yieldA_at 3 209) (And.intro (@yieldA_at 6 158) (And.intro (@yieldA_at 7 229) (And.intro (@yieldA_at 8 214) (And.intro (@yieldA_at 12 218) (@yieldA_at 14 166))))))))))))))))))) @hq ?_)
      (refine Drop_gc0 (by first | assumption | exact Nat.le_refl _ | first | assumption | omega | (simp only [LRP]; omega)) (by assumption) ?_; (focus (repeat (first | exact JR_nil | refine JR_J ?_ | (refine JR_plain ?_ ?_; (focus first | rfl | (refine plain_agg ?_; simp only [go_sem, ALS]; done))) | ((first | refine JR_pt ?_ ?_ ?_ | refine JR_sl ?_ ?_ ?_); (focus first | (rw [rhoF_new0]; rfl) | (rw [rhoF_new]; rfl) | (rw [rhoF_old]; first | assumption | omega)); (focus first | assumption | omega | (simp only [LRP]; omega))) | (refine JR_plain' ?_ ?_ ?_; (focus first | rfl | (refine plain_agg ?_; simp only [go_sem, ALS]; done)); (focus (first | rfl | (simp only [ICS]; done) | (simp only [ICS]; rfl)))) | (refine JR_sl' ?_ ?_ ?_ ?_; (focus first | (rw [rhoF_new0]; rfl) | (rw [rhoF_new]; rfl) | (rw [rhoF_old]; first | assumption | omega)); (focus first | assumption | omega | (simp only [LRP]; omega)); (focus first | rfl | omega | (first | rfl | (simp only [ICS]; done) | (simp only [ICS]; rfl)))) | (refine JR_old ?_ (Nat.le_refl _) ?_; (focus assumption)))) ))
  (repeat (first | ((first | (refine And.intro ?_ ?_; focus exact PLA) | ((first | with_reducible apply callB_i | with_reducible apply callK_intro | with_reducible apply callQ_i); (focus (first | assumption | (with_reducible apply q5 <;> (first | assumption | rfl | (simp (disch := omega) only [go_sem]; first | done | rfl) | omega | decide | (simp; done))))); (try exact WP_au)) | refine WA_seq (WA_region (id := 27) ?_) | refine WA_region (id := 27) ?_ | refine WA_exit ?_); try simp (maxSteps := 1000000) (disch := first | omega | rfl | decide | (simp only [LX] <;> omega)) only [go_sem, Nat.reduceAdd, Int.reduceAdd, Int.reduceSub, Int.reduceMul, BNS, bne_self_eq_false, Ci_stC, Ci_splice_all, Bool.not_true, yieldA_at 2 126, yieldA_at 2 154, yieldA_at 2 224, yieldA_at 2 255, yieldA_at 3 64, yieldA_at 3 93, yieldA_at 3 119, yieldA_at 3 146, yieldA_at 3 209, yieldA_at 6 158, yieldA_at 7 229, yieldA_at 8 214, yieldA_at 12 218, yieldA_at 14 166]) | refine WA_seq ?_ | refine WA_block ?_ | (refine WA_skip ?_; try simp only [go_sem]) | (refine WA_ret ?_; try simp only [go_sem]) | refine WA_ct rfl ?_ | refine WA_cf rfl ?_))
  rw [← hK5]
  (repeat (first | ((first | (refine And.intro ?_ ?_; focus exact PLA) | ((first | with_reducible apply callB_i | with_reducible apply callK_intro | with_reducible apply callQ_i); (focus (first | assumption | ((first | with_reducible apply dL | with_reducible apply dM) <;> (first | assumption | rfl | (simp (disch := omega) only [go_sem]; first | done | rfl) | omega | decide | (simp; done))))); (try exact WP_au)) | refine WA_seq (WA_region (id := 28) ?_) | refine WA_region (id := 28) ?_ | refine WA_seq (WA_region (id := 29) ?_) | refine WA_region (id := 29) ?_ | refine WA_seq (WA_region (id := 30) ?_) | refine WA_region (id := 30) ?_ | refine WA_exit ?_); try simp (maxSteps := 1000000) (disch := first | omega | rfl | decide | (simp only [LX] <;> omega)) only [go_sem, Nat.reduceAdd, Int.reduceAdd, Int.reduceSub, Int.reduceMul, BNS, bne_self_eq_false, Ci_stC, Ci_splice_all, Bool.not_true, k50, k51, k52, k53, k54, g51, g52, yieldA_at 2 126, yieldA_at 2 154, yieldA_at 2 224, yieldA_at 2 255, yieldA_at 3 64, yieldA_at 3 93, yieldA_at 3 119, yieldA_at 3 146, yieldA_at 3 209, yieldA_at 6 158, yieldA_at 7 229, yieldA_at 8 214, yieldA_at 12 218, yieldA_at 14 166]) | refine WA_seq ?_ | refine WA_block ?_ | (refine WA_skip ?_; try simp only [go_sem]) | (refine WA_ret ?_; try simp only [go_sem]) | refine WA_ct rfl ?_ | refine WA_cf rfl ?_))
  rcases pC with ⟨hz, rfl⟩ | ⟨rfl, kk, q, bC, rfl, rfl, hq1, hq6, hr, h0, h1, hf, hc, hbo, hp, rfl, hbC, hkC⟩
  · (refine sN (And.intro @hz (And.intro (@yieldA_at 2 126) (And.intro (@yieldA_at 2 154) (And.intro (@yieldA_at 2 224) (And.intro (@yieldA_at 2 255) (And.intro (@yieldA_at 3 64) (And.intro (@yieldA_at 3 93) (And.intro (@yieldA_at 3 119) (And.intro (@yieldA_at 3 146) (And.intro (@yieldA_at 3 209) (And.intro (@yieldA_at 6 158) (And.intro (@yieldA_at 7 229) (And.intro (@yieldA_at 8 214) (And.intro (@yieldA_at 12 218) (@yieldA_at 14 166))))))))))))))) ?_)
    rw [hA5]
    (exact sR0)
  · have x2 : K5[bC]? = some ⟨Bs ((q + 1) * 16) (trsF kk bx2 mx2 pl2 d2 q), true⟩ := by obtain ⟨A, e⟩ := ED5; rw [e]; exact look_old hkC A
    cases he : eqB 16 d2 (fun _ => 0)
    · by_cases hq3 : 3 < q
      · (refine sN (And.intro @x1 (And.intro @he (And.intro (decide_eq_true hq3) (And.intro (@yieldA_at 2 126) (And.intro (@yieldA_at 2 154) (And.intro (@yieldA_at 2 224) (And.intro (@yieldA_at 2 255) (And.intro (@yieldA_at 3 64) (And.intro (@yieldA_at 3 93) (And.intro (@yieldA_at 3 119) (And.intro (@yieldA_at 3 146) (And.intro (@yieldA_at 3 209) (And.intro (@yieldA_at 6 158) (And.intro (@yieldA_at 7 229) (And.intro (@yieldA_at 8 214) (And.intro (@yieldA_at 12 218) (@yieldA_at 14 166))))))))))))))))) ?_)
        rw [hA5]
        (exact sR0)
      · have hbd := act_bound (k := kk) (mx := mx2) hbo hp hq1 he
        have hL : ∀ h, AC Tryz.prog 14 [.agg (Ci kk bx2 mx2 pl2 r2).toArray, .int .i64 q] h (.tuple #[.int .i64 (lsF (itS pl2 (paN kk mx2) (paLen kk mx2) (q - 1)) 65536), .int .i64 0]) h := fun h => by
          rw [least_eq hp (paN kk mx2) (paLen kk mx2) (show q - 1 ≤ 20 by omega)]
          exact lact_I_op h0 h1 hf hc hp hr hq1 hq6 h
        (refine sN (And.intro @x1 (And.intro @he (And.intro (decide_eq_false hq3) (And.intro (@yieldA_at 2 126) (And.intro (@yieldA_at 2 154) (And.intro (@yieldA_at 2 224) (And.intro (@yieldA_at 2 255) (And.intro (@yieldA_at 3 64) (And.intro (@yieldA_at 3 93) (And.intro (@yieldA_at 3 119) (And.intro (@yieldA_at 3 146) (And.intro (@yieldA_at 3 209) (And.intro (@yieldA_at 6 158) (And.intro (@yieldA_at 7 229) (And.intro (@yieldA_at 8 214) (And.intro (@yieldA_at 12 218) (@yieldA_at 14 166))))))))))))))))) ?_)
        refine WA_forH (fun k => [(38, .int .i64 ((actS (fun r t => trsF kk bx2 mx2 pl2 d2 q (r * 16 + t)) k : Nat) : Int)), (39, .int .i64 k), (233, J), (234, J), (235, J), (236, J), (237, J), (238, J), (239, J), (240, J), (241, J), (242, J), (243, J), (244, J), (245, J), (246, J)]) (fun k => K5) (q) ?_ ?_ ?_ <;> (try simp only [PTS])
        · (exact sA @actS_zero)
        · intro j hj
          have hs1 := actS_le (fun r t => trsF kk bx2 mx2 pl2 d2 q (r * 16 + t)) j
          have hs2 := cntA_le (fun i => trsF kk bx2 mx2 pl2 d2 q (j * 16 + i)) 16
          have hw : IntKind.i64.wrap (((actS (fun r t => trsF kk bx2 mx2 pl2 d2 q (r * 16 + t)) j : Nat) : Int) + ((cntA (fun i => trsF kk bx2 mx2 pl2 d2 q (j * 16 + i)) 16 : Nat) : Int)) = ((actS (fun r t => trsF kk bx2 mx2 pl2 d2 q (r * 16 + t)) j : Nat) : Int) + ((cntA (fun i => trsF kk bx2 mx2 pl2 d2 q (j * 16 + i)) 16 : Nat) : Int) := wrap_i64 (by omega) (by omega)
          have g1 : decide (j + 1 < q + 1) = true := decide_eq_true (by omega)
          (refine sW (And.intro @x2 (And.intro @g1 (And.intro @hw (And.intro (@yieldA_at 2 126) (And.intro (@yieldA_at 2 154) (And.intro (@yieldA_at 2 224) (And.intro (@yieldA_at 2 255) (And.intro (@yieldA_at 3 64) (And.intro (@yieldA_at 3 93) (And.intro (@yieldA_at 3 119) (And.intro (@yieldA_at 3 146) (And.intro (@yieldA_at 3 209) (And.intro (@yieldA_at 6 158) (And.intro (@yieldA_at 7 229) (And.intro (@yieldA_at 8 214) (And.intro (@yieldA_at 12 218) (@yieldA_at 14 166))))))))))))))))) @actI_ac ?_)
          (exact sA @actS_succ)
        · have g1 : decide (q + 1 < q + 1) = false := decide_eq_false (by omega)
          (refine sW (And.intro @x0 (And.intro @g1 (And.intro (decide_eq_true hbd) (And.intro (@yieldA_at 2 126) (And.intro (@yieldA_at 2 154) (And.intro (@yieldA_at 2 224) (And.intro (@yieldA_at 2 255) (And.intro (@yieldA_at 3 64) (And.intro (@yieldA_at 3 93) (And.intro (@yieldA_at 3 119) (And.intro (@yieldA_at 3 146) (And.intro (@yieldA_at 3 209) (And.intro (@yieldA_at 6 158) (And.intro (@yieldA_at 7 229) (And.intro (@yieldA_at 8 214) (And.intro (@yieldA_at 12 218) (@yieldA_at 14 166))))))))))))))))) @hL ?_)
          rw [hA5]
          (exact sR0)
    · (refine sN (And.intro @x1 (And.intro @he (And.intro (@yieldA_at 2 126) (And.intro (@yieldA_at 2 154) (And.intro (@yieldA_at 2 224) (And.intro (@yieldA_at 2 255) (And.intro (@yieldA_at 3 64) (And.intro (@yieldA_at 3 93) (And.intro (@yieldA_at 3 119) (And.intro (@yieldA_at 3 146) (And.intro (@yieldA_at 3 209) (And.intro (@yieldA_at 6 158) (And.intro (@yieldA_at 7 229) (And.intro (@yieldA_at 8 214) (And.intro (@yieldA_at 12 218) (@yieldA_at 14 166)))))))))))))))) ?_)
      rw [hA5]
      (exact sR0)

end Go.Proofs.YtenkjbkcdcionaaGreat
namespace Go.Proofs.YtenkjbkcdcionaaGreat
set_option linter.unusedSimpArgs false
set_option linter.unusedVariables false
set_option maxRecDepth 20000
set_option maxHeartbeats 1000000
open Go.Abs

theorem fnTrails_big {b n : Nat} (hn : 4096 < n) (hn2 : n ≤ 9223372036854775807) (h : List Blk) : AC Tryz.prog 3 [sl b 0 n 1] h (.bool true) h := by
  have hbg := big_long (b := b) hn hn2
  (refine AC_begin (fun _ _ => Tryz.call3 _ _) Tryz.func3 rfl Tryz.ntmps3 Tryz.results3 (fun hwf => ?_); simp only [LCN, Nat.reduceAdd, Nat.reduceSub, List.replicate])
  (refine sW (And.intro (@yieldA_at 2 126) (And.intro (@yieldA_at 2 154) (And.intro (@yieldA_at 2 224) (And.intro (@yieldA_at 2 255) (And.intro (@yieldA_at 3 64) (And.intro (@yieldA_at 3 93) (And.intro (@yieldA_at 3 119) (And.intro (@yieldA_at 3 146) (And.intro (@yieldA_at 3 209) (And.intro (@yieldA_at 6 158) (And.intro (@yieldA_at 7 229) (And.intro (@yieldA_at 8 214) (And.intro (@yieldA_at 12 218) (@yieldA_at 14 166)))))))))))))) @hbg ?_)
  (exact sR0)

theorem fnTrails_args (us : List Value) (bl : List Blk) (h : ArgsU Tryz.prog 0 [22] us bl) : AC Tryz.prog 3 us bl (.bool true) bl := by
  rcases h.list (m := 1) (e := 5) (by kernel_rfl) (by kernel_rfl) with ⟨us1, rfl, h1⟩ | ⟨n1, f1, us1, bl1, rfl, rfl, hn1, h1⟩
  · obtain ⟨rfl, rfl⟩ := h1.done
    exact fnTrails_ok .nil
  · obtain ⟨rfl, rfl⟩ := h1.done
    rw [Nat.mul_one]
    rcases Nat.lt_or_ge 4096 n1 with hl | hl
    · exact fnTrails_big hl (by have : maxLen = 9223372036854775807 := rfl; omega) _
    · exact fnTrails_ok (Cv.sl (h := [⟨Bs n1 f1, false⟩]) (bc := 0) (f := f1) (rc := false) rfl hl)

set_option maxRecDepth 100000 in
set_option maxHeartbeats 1000000 in
theorem fnTrails_lifted (os : Os) (started : os.Started) (H : Type) (enc : TypeId × Value → H) :
    ReturnsInHanded {} Tryz.checked os 3 .any (Rows.fnTrailsSpec.pre6 enc Tryz.prog Tryz.f3 Rows.fnTrailsRow.domain false) (Rows.fnTrailsSpec.post enc Tryz.prog Tryz.f3 false true false false) :=
  frame_law (C := Tryz.checked) (by kernel_rfl) started (by kernel_rfl) Tryz.func3 (by kernel_rfl)
    (ChangeSpec.witness6 (enc := enc) (C := Tryz.checked) false ⟨#[], #[.slice none 0 0], []⟩ 8 (by kernel_rfl) (by kernel_rfl) (by kernel_rfl) (by kernel_rfl))
    rfl (fun ds h => by rw [Tryz.params3] at h; match ds, h with | [_], _ => rfl) (fun W h => by first | exact doorOk.shaped h | exact doorOk.mk h trivial trivial trivial) (by rfl) Tryz.underlying4 (by rw [Tryz.params3]; kernel_rfl)
    (by rw [Tryz.params3]; exact fnTrails_args)

theorem fnTrails : Rows.FnTrailsSaid :=
  OpenClaim.holds_of_wide 3 Tryz.f3 rfl rfl rfl rfl rfl rfl rfl ⟨rfl, rfl, rfl, rfl, rfl⟩ rfl rfl rfl rfl rfl (by kernel_rfl) Tryz.func3 (by kernel_rfl)
    (of_decide_eq_true (by kernel_rfl)) (by unfold Func.isWrapper; first | (rw [if_pos (by decide +kernel)]; kernel_rfl) | (rw [if_neg (by decide +kernel)]; exact ⟨rfl, rfl⟩))
    (fun os started H enc _ => fnTrails_lifted os started H enc)
#print axioms fnTrails
end Go.Proofs.YtenkjbkcdcionaaGreat
