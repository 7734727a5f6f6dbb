/- FnLayers is proved: whatever the input, the law returns true and its arguments read as they did. No condition. -/
import Derived.Test.YtcfpninklbnifaaQLYH
import Derived.Test.YtcfpninklbnifaaQLY0
import Derived.Test.YtcfpninklbnifaaQLY1
import Derived.Test.YtcfpninklbnifaaQLY2
import Derived.Test.YtcfpninklbnifaaQLY3
import Derived.Test.YtcfpninklbnifaaQLY4
import Derived.Test.YtcfpninklbnifaaQLY5
import Derived.Test.YtcfpninklbnifaaQLY6
import Derived.Test.YtcfpninklbnifaaQLY7
import Derived.Test.YtcfpninklbnifaaQLY8
/- Deciphering undoes enciphering. -/
namespace Go.Proofs.Ytcfpninklbnifaa
set_option linter.unusedSimpArgs false
set_option linter.unusedVariables false
set_option maxRecDepth 20000
set_option maxHeartbeats 1000000
open Go.Abs

theorem bef_lay {m : Nat} (h0 : 256 ≤ m) (h1 : m < 512) (hf : fieldB m = true) {mx pl : Nat → UInt8} (hd : detF m mx ≠ 0) (hp : plOk pl = true) {e d : Nat → UInt8} (last : Bool)
    (h : ∀ i, i < 16 → e i = layF m mx pl d last i) {i : Nat} (hi : i < 16) : befF m mx pl e last i = d i := by
  have hlt : (invP pl 16 i).toNat < 16 := invP_lt pl 16 (Nat.le_refl _) i
  cases last
  · show mixF m (backF m mx) e (invP pl 16 i).toNat = d i
    rw [mixF_cong (fun _ _ => rfl) (show ∀ i, i < 16 → e i = mixF m mx (movF pl d) i from h) hlt, mix_back h0 h1 hf hd _ hlt]
    exact mov_back hp d hi
  · show e (invP pl 16 i).toNat = d i
    rw [h _ hlt]
    exact mov_back hp d hi
section
variable {m : Nat} (h0 : 256 ≤ m) (h1 : m < 512) (hf : fieldB m = true) {bx mx pl : Nat → UInt8} (hd : detF m mx ≠ 0) (hp : plOk pl = true) (hb : boxOk bx = true) (y s : Nat → UInt8) (n : Nat)
include h0 h1 hf hd hp hb
end
end Go.Proofs.Ytcfpninklbnifaa
/- One active byte through one round: pairs are counts of differences. Plain. -/
namespace Go.Proofs.Ytcfpninklbnifaa
set_option linter.unusedSimpArgs false
set_option linter.unusedVariables false
set_option maxRecDepth 20000
set_option maxHeartbeats 1000000
open Go.Abs

theorem cntP_range (p : Nat → Bool) : ∀ n, cntP p n = (List.range n).countP p
  | 0 => rfl
  | n + 1 => by
    rw [List.range_succ, List.countP_append, ← cntP_range p n]
    cases h : p n
    · rw [cntP_f h]; simp [h]
    · rw [cntP_t h]; simp [h]
theorem cntP_cong {p q : Nat → Bool} : ∀ {n : Nat}, (∀ k, k < n → p k = q k) → cntP p n = cntP q n
  | 0, _ => rfl
  | n + 1, h => by
    have ih := cntP_cong (n := n) fun k hk => h k (by omega)
    have e := h n (by omega)
    cases hp : p n
    · rw [cntP_f hp, cntP_f (e ▸ hp), ih]
    · rw [cntP_t hp, cntP_t (e ▸ hp), ih]
theorem xor_inv (c : UInt8) (k : Nat) (hk : k < 256) : (UInt8.ofNat (UInt8.ofNat k ^^^ c).toNat ^^^ c).toNat = k := by
  rw [UInt8.ofNat_toNat, UInt8.xor_assoc, UInt8.xor_self, UInt8.xor_zero, UInt8.toNat_ofNat']
  exact Nat.mod_eq_of_lt hk
theorem cntP_xor (p : Nat → Bool) (c : UInt8) : cntP (fun k => p (UInt8.ofNat k ^^^ c).toNat) 256 = cntP p 256 := by
  have hnd : ((List.range 256).map fun k => (UInt8.ofNat k ^^^ c).toNat).Nodup := by
    unfold List.Nodup
    rw [List.pairwise_map]
    refine List.Pairwise.imp_of_mem ?_ (List.nodup_range (n := 256))
    intro a b ha hb hne e
    have h1 := xor_inv c a (List.mem_range.1 ha)
    have h2 := xor_inv c b (List.mem_range.1 hb)
    rw [e, h2] at h1
    exact hne h1.symm
  have hp : ((List.range 256).map fun k => (UInt8.ofNat k ^^^ c).toNat).Perm (List.range 256) := by
    refine (List.perm_ext_iff_of_nodup hnd List.nodup_range).2 fun a => ?_
    rw [List.mem_map, List.mem_range]
    constructor
    · rintro ⟨k, _, rfl⟩; exact u8_lt _
    · intro ha
      exact ⟨(UInt8.ofNat a ^^^ c).toNat, List.mem_range.2 (u8_lt _), xor_inv c a ha⟩
  rw [cntP_range, cntP_range, ← hp.countP_eq p, List.countP_map]
  rfl
theorem difP_cnt (bx : Nat → UInt8) (d : UInt8) (y : Nat) : ∀ n, difP bx d n y = cntP (fun k => (diA bx d k).toNat == y) n
  | 0 => rfl
  | n + 1 => by
    have ih := difP_cnt bx d y n
    by_cases h : (diA bx d n).toNat = y
    · rw [cntP_t (by simpa using h), ← ih]
      subst h
      simp [difP, upd]
    · rw [cntP_f (by simpa using h), ← ih]
      have h' : ¬ y = (diA bx d n).toNat := fun e => h e.symm
      simp [difP, upd, h']
theorem dif_some (bx : Nat → UInt8) (d : UInt8) : 1 ≤ difP bx d 256 (bestP (difP bx d 256) 255) := by
  have h1 := bestP_max (difP bx d 256) 255 (diA bx d 255).toNat (by have := u8_lt (diA bx d 255); omega)
  have h2 : difP bx d 256 (diA bx d 255).toNat = difP bx d 255 (diA bx d 255).toNat + 1 := by
    show upd (difP bx d 255) (diA bx d 255).toNat (difP bx d 255 (diA bx d 255).toNat + 1) (diA bx d 255).toNat = _
    simp [upd]
  omega
theorem diA_zero (bx : Nat → UInt8) {k : Nat} (hk : k < 256) : diA bx 0 k = 0 := by
  unfold diA
  rw [UInt8.xor_zero, UInt8.toNat_ofNat', Nat.mod_eq_of_lt hk, UInt8.xor_self]
theorem dif_zero (bx : Nat → UInt8) : ∀ n, n ≤ 256 → difP bx 0 n 0 = n ∧ ∀ y, y ≠ 0 → difP bx 0 n y = 0
  | 0, _ => ⟨rfl, fun _ _ => rfl⟩
  | n + 1, hn => by
    obtain ⟨h1, h2⟩ := dif_zero bx n (by omega)
    have e := diA_zero bx (k := n) (by omega)
    constructor
    · show upd (difP bx 0 n) (diA bx 0 n).toNat (difP bx 0 n (diA bx 0 n).toNat + 1) 0 = n + 1
      rw [e]; simp [upd, h1]
    · intro y hy
      show upd (difP bx 0 n) (diA bx 0 n).toNat (difP bx 0 n (diA bx 0 n).toNat + 1) y = 0
      rw [e]; simp [upd, hy, h2 y hy]
theorem best_zero (bx : Nat → UInt8) : bestP (difP bx 0 256) 255 = 0 := by
  obtain ⟨h1, h2⟩ := dif_zero bx 256 (Nat.le_refl _)
  have h3 := bestP_max (difP bx 0 256) 255 0 (Nat.zero_le _)
  refine Classical.byContradiction fun hne => ?_
  rw [h2 _ hne] at h3
  omega
theorem bs_nat (bx d : Nat → UInt8) (i : Nat) : (bsF bx d i).toNat = bestP (difP bx (d i) 256) 255 := by
  unfold bsF
  rw [UInt8.toNat_ofNat']
  exact Nat.mod_eq_of_lt (Nat.lt_of_le_of_lt (bestP_le _ 255) (by omega))
theorem bs_zero (bx d : Nat → UInt8) {i : Nat} (h : d i = 0) : bsF bx d i = 0 := by
  unfold bsF; rw [h, best_zero]; rfl
theorem st_best {bx d x : Nat → UInt8} {i : Nat} (h : x i = bsF bx d i) : ∃ n : Nat, stF bx d x i = (n : Int) ∧ 1 ≤ n ∧ n ≤ 256 ∧ (d i = 0 → n = 256) := by
  refine ⟨difP bx (d i) 256 (bestP (difP bx (d i) 256) 255), ?_, dif_some bx (d i), difP_le .., fun hd => ?_⟩
  · unfold stF; rw [h, bs_nat]; rfl
  · rw [hd, best_zero]; exact (dif_zero bx 256 (Nat.le_refl _)).1
theorem allB_of {p : Nat → Bool} {n : Nat} (h : ∀ i, i < n → p i = true) : allB p n = true := List.all_eq_true.2 fun i hi => h i (List.mem_range.1 hi)
theorem st_ok {bx d x : Nat → UInt8} (h : ∀ i, i < 16 → x i = bsF bx d i) : allB (stB bx d x) 16 = true := allB_of fun i hi => by
  obtain ⟨n, h1, h2, _⟩ := st_best (h i hi)
  unfold stB; rw [h1]
  have : ¬ ((n : Int) = 0) := by omega
  simpa using this
theorem pairs_one {m : Nat} {bx mx pl y b : Nat → UInt8} (hp : plOk pl = true) {i : Nat} (hi : i < 16) (s : UInt8) :
    cntP (pairF m bx mx pl y b (upd zeroF i s) (layF m mx pl (bsF bx (upd zeroF i s)) true) 1 i) 256 = difP bx s 256 (bsF bx (upd zeroF i s) i).toNat := by
  rw [difP_cnt, ← cntP_xor (fun k => (diA bx s k).toNat == (bsF bx (upd zeroF i s) i).toNat) (kyF bx y 0 i)]
  refine cntP_cong fun k hk => ?_
  have hd : upd zeroF i s i = s := by simp [upd]
  have hb : blkP b i (k + 1) i = UInt8.ofNat k := by simp [blkP, upd]
  have key : ∀ j, xorF (encF m bx mx pl y (blkP b i (k + 1)) 1) (encF m bx mx pl y (xorF (blkP b i (k + 1)) (upd zeroF i s)) 1) j =
      bx (blkP b i (k + 1) (pl j).toNat ^^^ kyF bx y 0 (pl j).toNat).toNat ^^^ bx ((blkP b i (k + 1) (pl j).toNat ^^^ upd zeroF i s (pl j).toNat) ^^^ kyF bx y 0 (pl j).toNat).toNat := fun j => by
    show (bx (blkP b i (k + 1) (pl j).toNat ^^^ kyF bx y 0 (pl j).toNat).toNat ^^^ kyF bx y 1 j) ^^^ (bx ((blkP b i (k + 1) (pl j).toNat ^^^ upd zeroF i s (pl j).toNat) ^^^ kyF bx y 0 (pl j).toNat).toNat ^^^ kyF bx y 1 j) = _
    generalize bx (blkP b i (k + 1) (pl j).toNat ^^^ kyF bx y 0 (pl j).toNat).toNat = u
    generalize bx ((blkP b i (k + 1) (pl j).toNat ^^^ upd zeroF i s (pl j).toNat) ^^^ kyF bx y 0 (pl j).toNat).toNat = v
    generalize kyF bx y 1 j = w
    rw [UInt8.xor_comm v w, UInt8.xor_assoc, ← UInt8.xor_assoc w w v, UInt8.xor_self, UInt8.zero_xor]
  have at_i : bx (UInt8.ofNat k ^^^ kyF bx y 0 i).toNat ^^^ bx ((UInt8.ofNat k ^^^ s) ^^^ kyF bx y 0 i).toNat = diA bx s (UInt8.ofNat k ^^^ kyF bx y 0 i).toNat := by
    unfold diA
    rw [UInt8.ofNat_toNat, UInt8.xor_assoc, UInt8.xor_assoc, UInt8.xor_comm s]
  have e : layF m mx pl (bsF bx (upd zeroF i s)) true = movF pl (bsF bx (upd zeroF i s)) := rfl
  unfold pairF pairH
  rw [e]
  rw [Bool.eq_iff_iff, eqB_iff, beq_iff_eq]
  constructor
  · intro h
    have hlt := invP_lt pl 16 (Nat.le_refl _) i
    have h1 := (key _).symm.trans (h _ hlt)
    have hpi : (pl (invP pl 16 i).toNat).toNat = i := by
      have := mov_back hp (fun j => UInt8.ofNat j) hi
      have h2 : UInt8.ofNat (pl (invP pl 16 i).toNat).toNat = UInt8.ofNat i := this
      have h3 := congrArg UInt8.toNat h2
      rw [UInt8.toNat_ofNat', UInt8.toNat_ofNat', Nat.mod_eq_of_lt (u8_lt _), Nat.mod_eq_of_lt (by omega)] at h3
      exact h3
    have h4 : movF pl (bsF bx (upd zeroF i s)) (invP pl 16 i).toNat = bsF bx (upd zeroF i s) i := by
      show bsF bx (upd zeroF i s) (pl (invP pl 16 i).toNat).toNat = _
      rw [hpi]
    rw [h4, hpi, hb, hd, at_i] at h1
    rw [h1]
  · intro h j hj
    have hlt := plOk_lt hp hj
    refine (key j).trans ?_
    show _ = bsF bx (upd zeroF i s) (pl j).toNat
    by_cases hji : (pl j).toNat = i
    · rw [hji, hb, hd, at_i]
      exact UInt8.toNat_inj.1 h
    · have hz : upd zeroF i s (pl j).toNat = 0 := by simp [upd, hji, zeroF]
      rw [bs_zero bx _ hz, hz, UInt8.xor_zero, UInt8.xor_self]
theorem lay_xor {m : Nat} {mx pl : Nat → UInt8} (a b : Nat → UInt8) (last : Bool) : layF m mx pl (xorF a b) last = xorF (layF m mx pl a last) (layF m mx pl b last) := by
  cases last
  · show mixF m mx (xorF (movF pl a) (movF pl b)) = _
    exact mix_xor mx _ _
  · rfl
end Go.Proofs.Ytcfpninklbnifaa
/- Dice of the laws: as the draws' source. -/
namespace Go.Proofs.Ytcfpninklbnifaa
set_option linter.unusedSimpArgs false
set_option linter.unusedVariables false
set_option maxRecDepth 20000
set_option maxHeartbeats 1000000
open Go.Abs

theorem below_ex {h : List Blk} {b : Nat} {cv : Value} {k : Blk} (hb : h[b]? = some k) (hk : Src h b cv k) {N : Nat} (hN : 0 < N) (hN2 : N ≤ 1125899906842624) :
    ∃ (x : Nat) (k' : Blk), x < N ∧ Src h b cv k' ∧ AC Try.prog 41 [pt b 0, .int .i64 N] h (.int .i64 x) (h.set b k') := by
  obtain ⟨a, hs, n, f, rfl, h1, h2, c⟩ := hk
  have hbl := blt hb
  obtain ⟨q, hq, e⟩ := and24 ((nxH hs).fdiv (2 ^ (min 33 64)))
  cases c with
  | nil =>
    refine ⟨q % N, ⟨Sr (.slice none 0 0) a (nxH hs), true⟩, Nat.mod_lt _ hN, ⟨a, _, 0, f, rfl, h1, h2, .nil f⟩, ?_⟩
    have hz : decide (N < 1) = false := decide_eq_false (by omega)
    have ha : decide (a < 0) = false := decide_eq_false (by omega)
    (refine AC_begin (fun _ _ => Try.call41 _ _) Try.func41 rfl Try.ntmps41 Try.results41 (fun hwf => ?_); simp only [List.length_cons, List.length_nil, Nat.reduceAdd, Nat.reduceSub, List.replicate, List.cons_append, List.nil_append])
    (repeat (first | ((first | (refine And.intro ?_ ?_; focus exact PLA) | refine WA_seq (WA_region ?_) | refine WA_region ?_ | refine WA_exit ?_); try simp (maxSteps := 1000000) (disch := first | omega | rfl | decide | (simp only [List.length_cons, List.length_nil, List.length_append, LV] <;> omega)) only [go_sem, Nat.reduceAdd, Int.reduceAdd, Int.reduceSub, Int.reduceMul, Bool.not_true, Bool.not_false, hb, look_set hbl, List.set_set, hz, ha, show IntKind.u64.wrap (IntKind.u64.wrap (hs * 6364136223846793005) + 1442695040888963407) = nxH hs from rfl, e]) | (refine WA_seq (WA_draw (id := 5) mixedOk (by kernel_rfl) ?_); simp (maxSteps := 1000000) (disch := first | omega | rfl | decide | (simp only [List.length_cons, List.length_nil, List.length_append, LV] <;> omega)) only [go_sem, Nat.reduceAdd, Int.reduceAdd, Int.reduceSub, Int.reduceMul, Bool.not_true, Bool.not_false, hb, look_set hbl, List.set_set, hz, ha, show IntKind.u64.wrap (IntKind.u64.wrap (hs * 6364136223846793005) + 1442695040888963407) = nxH hs from rfl, e]) | (refine WA_draw (id := 5) mixedOk (by kernel_rfl) ?_; simp (maxSteps := 1000000) (disch := first | omega | rfl | decide | (simp only [List.length_cons, List.length_nil, List.length_append, LV] <;> omega)) only [go_sem, Nat.reduceAdd, Int.reduceAdd, Int.reduceSub, Int.reduceMul, Bool.not_true, Bool.not_false, hb, look_set hbl, List.set_set, hz, ha, show IntKind.u64.wrap (IntKind.u64.wrap (hs * 6364136223846793005) + 1442695040888963407) = nxH hs from rfl, e]) | (refine WA_seq (WA_draw (id := 6) mixedOk (by kernel_rfl) ?_); simp (maxSteps := 1000000) (disch := first | omega | rfl | decide | (simp only [List.length_cons, List.length_nil, List.length_append, LV] <;> omega)) only [go_sem, Nat.reduceAdd, Int.reduceAdd, Int.reduceSub, Int.reduceMul, Bool.not_true, Bool.not_false, hb, look_set hbl, List.set_set, hz, ha, show IntKind.u64.wrap (IntKind.u64.wrap (hs * 6364136223846793005) + 1442695040888963407) = nxH hs from rfl, e]) | (refine WA_draw (id := 6) mixedOk (by kernel_rfl) ?_; simp (maxSteps := 1000000) (disch := first | omega | rfl | decide | (simp only [List.length_cons, List.length_nil, List.length_append, LV] <;> omega)) only [go_sem, Nat.reduceAdd, Int.reduceAdd, Int.reduceSub, Int.reduceMul, Bool.not_true, Bool.not_false, hb, look_set hbl, List.set_set, hz, ha, show IntKind.u64.wrap (IntKind.u64.wrap (hs * 6364136223846793005) + 1442695040888963407) = nxH hs from rfl, e]) | refine WA_seq ?_ | refine WA_block ?_ | (refine WA_skip ?_; try simp only [go_sem]) | (refine WA_ret ?_; try simp only [go_sem]) | refine WA_ct rfl ?_ | refine WA_cf rfl ?_))
    ((first | refine ret_nA ?_ | refine ret_sA ?_ | refine ret_fA ?_); simp (maxSteps := 1000000) (disch := first | omega | rfl | decide | (simp only [List.length_cons, List.length_nil, List.length_append, LV] <;> omega)) only [go_sem, Nat.reduceAdd, Int.reduceAdd, Int.reduceSub, Int.reduceMul, Bool.not_true, Bool.not_false]; try rfl)
  | sl _ hc hne =>
    have hc2 := fun (x : Blk) => set_at (x := x) hc hne.symm
    have hz : decide (N < 1) = false := decide_eq_false (by omega)
    by_cases ha : a < n
    · have hf := u8_lt (f a)
      refine ⟨(q + (f a).toNat) % N, ⟨Sr _ ((a + 1 : Nat) : Int) (nxH hs), true⟩, Nat.mod_lt _ hN, ⟨a + 1, _, n, f, rfl, by omega, h2, .sl f hc hne⟩, ?_⟩
      (refine AC_begin (fun _ _ => Try.call41 _ _) Try.func41 rfl Try.ntmps41 Try.results41 (fun hwf => ?_); simp only [List.length_cons, List.length_nil, Nat.reduceAdd, Nat.reduceSub, List.replicate, List.cons_append, List.nil_append])
      (repeat (first | ((first | (refine And.intro ?_ ?_; focus exact PLA) | refine WA_seq (WA_region ?_) | refine WA_region ?_ | refine WA_exit ?_); try simp (maxSteps := 1000000) (disch := first | omega | rfl | decide | (simp only [List.length_cons, List.length_nil, List.length_append, LV] <;> omega)) only [go_sem, Nat.reduceAdd, Int.reduceAdd, Int.reduceSub, Int.reduceMul, Bool.not_true, Bool.not_false, hb, look_set hbl, List.set_set, hc2, hz, decide_eq_true ha, show IntKind.u64.wrap (IntKind.u64.wrap (hs * 6364136223846793005) + 1442695040888963407) = nxH hs from rfl, e]) | (refine WA_seq (WA_draw (id := 5) mixedOk (by kernel_rfl) ?_); simp (maxSteps := 1000000) (disch := first | omega | rfl | decide | (simp only [List.length_cons, List.length_nil, List.length_append, LV] <;> omega)) only [go_sem, Nat.reduceAdd, Int.reduceAdd, Int.reduceSub, Int.reduceMul, Bool.not_true, Bool.not_false, hb, look_set hbl, List.set_set, hc2, hz, decide_eq_true ha, show IntKind.u64.wrap (IntKind.u64.wrap (hs * 6364136223846793005) + 1442695040888963407) = nxH hs from rfl, e]) | (refine WA_draw (id := 5) mixedOk (by kernel_rfl) ?_; simp (maxSteps := 1000000) (disch := first | omega | rfl | decide | (simp only [List.length_cons, List.length_nil, List.length_append, LV] <;> omega)) only [go_sem, Nat.reduceAdd, Int.reduceAdd, Int.reduceSub, Int.reduceMul, Bool.not_true, Bool.not_false, hb, look_set hbl, List.set_set, hc2, hz, decide_eq_true ha, show IntKind.u64.wrap (IntKind.u64.wrap (hs * 6364136223846793005) + 1442695040888963407) = nxH hs from rfl, e]) | (refine WA_seq (WA_draw (id := 6) mixedOk (by kernel_rfl) ?_); simp (maxSteps := 1000000) (disch := first | omega | rfl | decide | (simp only [List.length_cons, List.length_nil, List.length_append, LV] <;> omega)) only [go_sem, Nat.reduceAdd, Int.reduceAdd, Int.reduceSub, Int.reduceMul, Bool.not_true, Bool.not_false, hb, look_set hbl, List.set_set, hc2, hz, decide_eq_true ha, show IntKind.u64.wrap (IntKind.u64.wrap (hs * 6364136223846793005) + 1442695040888963407) = nxH hs from rfl, e]) | (refine WA_draw (id := 6) mixedOk (by kernel_rfl) ?_; simp (maxSteps := 1000000) (disch := first | omega | rfl | decide | (simp only [List.length_cons, List.length_nil, List.length_append, LV] <;> omega)) only [go_sem, Nat.reduceAdd, Int.reduceAdd, Int.reduceSub, Int.reduceMul, Bool.not_true, Bool.not_false, hb, look_set hbl, List.set_set, hc2, hz, decide_eq_true ha, show IntKind.u64.wrap (IntKind.u64.wrap (hs * 6364136223846793005) + 1442695040888963407) = nxH hs from rfl, e]) | refine WA_seq ?_ | refine WA_block ?_ | (refine WA_skip ?_; try simp only [go_sem]) | (refine WA_ret ?_; try simp only [go_sem]) | refine WA_ct rfl ?_ | refine WA_cf rfl ?_))
      ((first | refine ret_nA ?_ | refine ret_sA ?_ | refine ret_fA ?_); simp (maxSteps := 1000000) (disch := first | omega | rfl | decide | (simp only [List.length_cons, List.length_nil, List.length_append, LV] <;> omega)) only [go_sem, Nat.reduceAdd, Int.reduceAdd, Int.reduceSub, Int.reduceMul, Bool.not_true, Bool.not_false]; try rfl)
    · refine ⟨q % N, ⟨Sr _ a (nxH hs), true⟩, Nat.mod_lt _ hN, ⟨a, _, n, f, rfl, h1, h2, .sl f hc hne⟩, ?_⟩
      (refine AC_begin (fun _ _ => Try.call41 _ _) Try.func41 rfl Try.ntmps41 Try.results41 (fun hwf => ?_); simp only [List.length_cons, List.length_nil, Nat.reduceAdd, Nat.reduceSub, List.replicate, List.cons_append, List.nil_append])
      (repeat (first | ((first | (refine And.intro ?_ ?_; focus exact PLA) | refine WA_seq (WA_region ?_) | refine WA_region ?_ | refine WA_exit ?_); try simp (maxSteps := 1000000) (disch := first | omega | rfl | decide | (simp only [List.length_cons, List.length_nil, List.length_append, LV] <;> omega)) only [go_sem, Nat.reduceAdd, Int.reduceAdd, Int.reduceSub, Int.reduceMul, Bool.not_true, Bool.not_false, hb, look_set hbl, List.set_set, hz, decide_eq_false ha, show IntKind.u64.wrap (IntKind.u64.wrap (hs * 6364136223846793005) + 1442695040888963407) = nxH hs from rfl, e]) | (refine WA_seq (WA_draw (id := 5) mixedOk (by kernel_rfl) ?_); simp (maxSteps := 1000000) (disch := first | omega | rfl | decide | (simp only [List.length_cons, List.length_nil, List.length_append, LV] <;> omega)) only [go_sem, Nat.reduceAdd, Int.reduceAdd, Int.reduceSub, Int.reduceMul, Bool.not_true, Bool.not_false, hb, look_set hbl, List.set_set, hz, decide_eq_false ha, show IntKind.u64.wrap (IntKind.u64.wrap (hs * 6364136223846793005) + 1442695040888963407) = nxH hs from rfl, e]) | (refine WA_draw (id := 5) mixedOk (by kernel_rfl) ?_; simp (maxSteps := 1000000) (disch := first | omega | rfl | decide | (simp only [List.length_cons, List.length_nil, List.length_append, LV] <;> omega)) only [go_sem, Nat.reduceAdd, Int.reduceAdd, Int.reduceSub, Int.reduceMul, Bool.not_true, Bool.not_false, hb, look_set hbl, List.set_set, hz, decide_eq_false ha, show IntKind.u64.wrap (IntKind.u64.wrap (hs * 6364136223846793005) + 1442695040888963407) = nxH hs from rfl, e]) | (refine WA_seq (WA_draw (id := 6) mixedOk (by kernel_rfl) ?_); simp (maxSteps := 1000000) (disch := first | omega | rfl | decide | (simp only [List.length_cons, List.length_nil, List.length_append, LV] <;> omega)) only [go_sem, Nat.reduceAdd, Int.reduceAdd, Int.reduceSub, Int.reduceMul, Bool.not_true, Bool.not_false, hb, look_set hbl, List.set_set, hz, decide_eq_false ha, show IntKind.u64.wrap (IntKind.u64.wrap (hs * 6364136223846793005) + 1442695040888963407) = nxH hs from rfl, e]) | (refine WA_draw (id := 6) mixedOk (by kernel_rfl) ?_; simp (maxSteps := 1000000) (disch := first | omega | rfl | decide | (simp only [List.length_cons, List.length_nil, List.length_append, LV] <;> omega)) only [go_sem, Nat.reduceAdd, Int.reduceAdd, Int.reduceSub, Int.reduceMul, Bool.not_true, Bool.not_false, hb, look_set hbl, List.set_set, hz, decide_eq_false ha, show IntKind.u64.wrap (IntKind.u64.wrap (hs * 6364136223846793005) + 1442695040888963407) = nxH hs from rfl, e]) | refine WA_seq ?_ | refine WA_block ?_ | (refine WA_skip ?_; try simp only [go_sem]) | (refine WA_ret ?_; try simp only [go_sem]) | refine WA_ct rfl ?_ | refine WA_cf rfl ?_))
      ((first | refine ret_nA ?_ | refine ret_sA ?_ | refine ret_fA ?_); simp (maxSteps := 1000000) (disch := first | omega | rfl | decide | (simp only [List.length_cons, List.length_nil, List.length_append, LV] <;> omega)) only [go_sem, Nat.reduceAdd, Int.reduceAdd, Int.reduceSub, Int.reduceMul, Bool.not_true, Bool.not_false]; try rfl)
theorem below_aft {h : List Blk} {b : Nat} {cv : Value} (s : SrcAt h b cv) {N : Nat} (hN : 0 < N) (hN2 : N ≤ 1125899906842624) :
    ∃ (x : Nat) (h' : List Blk), x < N ∧ Aft h h' b cv ∧ AC Try.prog 41 [pt b 0, .int .i64 N] h (.int .i64 x) h' := by
  obtain ⟨k, hb, hk⟩ := s
  obtain ⟨x, k', hx, hk', hc⟩ := below_ex hb hk hN hN2
  exact ⟨x, _, hx, aft_set (blt hb) hk', hc⟩

def dcH (s0 : Int) (f : Nat → UInt8) : Nat → Int
  | 0 => s0
  | k + 1 => IntKind.u64.wrap (IntKind.u64.wrap (IntKind.u64.wrap (dcH s0 f k * 1099511628211) + ((f k).toNat : Int)) + 5)
theorem roll_aft {h : List Blk} {cv : Value} (c : Cv h cv) (sd : Nat) (hsd : sd ≤ 1000000) : ∃ h', SrcAt h' h.length cv ∧ (∃ L, h' = h ++ L) ∧ AC Try.prog 38 [cv, .int .u64 sd] h (pt h.length 0) h' := by
  cases c with
  | nil =>
    refine ⟨h ++ [⟨Sr (.slice none 0 0) ((0 : Nat) : Int) ((sd * 6907 + 0 : Nat) : Int), true⟩], ⟨⟨Sr (.slice none 0 0) ((0 : Nat) : Int) ((sd * 6907 + 0 : Nat) : Int), true⟩, by simp, 0, _, 0, fun _ => 0, rfl, Nat.le_refl _, by omega, .nil _⟩, ⟨_, rfl⟩, ?_⟩
    (refine AC_begin (fun _ _ => Try.call38 _ _) Try.func38 rfl Try.ntmps38 Try.results38 (fun hwf => ?_); simp only [List.length_cons, List.length_nil, Nat.reduceAdd, Nat.reduceSub, List.replicate, List.cons_append, List.nil_append])
    (repeat (first | ((first | (refine And.intro ?_ ?_; focus exact PLA) | refine WA_seq (WA_region ?_) | refine WA_region ?_ | refine WA_exit ?_); try simp (maxSteps := 1000000) (disch := first | omega | rfl | decide | (simp only [List.length_cons, List.length_nil, List.length_append, LV] <;> omega)) only [go_sem, Nat.reduceAdd, Int.reduceAdd, Int.reduceSub, Int.reduceMul, Bool.not_true, Bool.not_false]) | (refine (WA_rb (id := 5) [15] (SubM.refl _) mixedOk ?_); simp only [List.size_toArray, List.length_cons, List.length_nil]; (repeat (first | ((first | (refine And.intro ?_ ?_; focus exact PLA) | refine RB_take false [0, 1, 2, 3, 6, 7, 8] 9 (by rfl) (by kernel_rfl) (by decide) (by decide +kernel) ?_ | refine RB_take true [4, 9] 7 (by rfl) (by kernel_rfl) (by decide) (by decide +kernel) ?_ | refine RB_take false [5, 10, 11, 12, 13, 14] 1 (by rfl) (by kernel_rfl) (by decide) (by decide +kernel) ?_ | refine RB_exec 15 _ (by rfl) (by decide +kernel) (by decide +kernel) ?_ | refine RB_done (by decide +kernel) ?_); try simp (maxSteps := 1000000) (disch := first | omega | rfl | decide | (simp only [List.length_cons, List.length_nil, List.length_append, LV] <;> omega)) only [go_sem, Nat.reduceAdd, Int.reduceAdd, Int.reduceSub, Int.reduceMul, Bool.not_true, Bool.not_false])))) | refine WA_seq ?_ | refine WA_block ?_ | (refine WA_skip ?_; try simp only [go_sem]) | (refine WA_ret ?_; try simp only [go_sem]) | refine WA_ct rfl ?_ | refine WA_cf rfl ?_))
    refine WA_forP (fun k => [(6, .int .i64 k), (16, J), (17, J), (18, J), (19, J), (20, J), (21, J), (22, J), (23, J), (24, J), (25, J), (26, J), (27, J), (28, J), (29, J), (30, J), (31, J), (32, J), (33, J), (34, J), (35, J), (36, J)]) (fun k => []) (0) ?_ ?_ ?_ <;> (try simp only [patT_cons, patT_nil, patL_cons, patL_nil, list_set_zero, list_set_succ, blk_set_zero, blk_set_succ])
    · (refine Drop_slots (by first | exact Nat.le_refl _ | simp) ?_; focus ((try simp only [JL_same, JL_J, JL_nil, Int.reduceAdd, Nat.sub_sub, Int.natCast_add, Int.natCast_one, Int.natCast_zero, Int.cast_ofNat_Int, Nat.add_zero, Bool.false_eq_true, if_false, if_true]); (try exact JL_refl _)))
    · intro k hk
      omega
    · (repeat (first | ((first | (refine And.intro ?_ ?_; focus exact PLA) | refine WA_seq (WA_region ?_) | refine WA_region ?_ | refine WA_exit ?_); try simp (maxSteps := 1000000) (disch := first | omega | rfl | decide | (simp only [List.length_cons, List.length_nil, List.length_append, LV] <;> omega)) only [go_sem, Nat.reduceAdd, Int.reduceAdd, Int.reduceSub, Int.reduceMul, Bool.not_true, Bool.not_false, show decide ((0 : Nat) < 0) = false from rfl, show decide ((0 : Int) < 0) = false from rfl]) | refine WA_seq ?_ | refine WA_block ?_ | (refine WA_skip ?_; try simp only [go_sem]) | (refine WA_ret ?_; try simp only [go_sem]) | refine WA_ct rfl ?_ | refine WA_cf rfl ?_))
      ((first | refine ret_nA ?_ | refine ret_sA ?_ | refine ret_fA ?_); simp (maxSteps := 1000000) (disch := first | omega | rfl | decide | (simp only [List.length_cons, List.length_nil, List.length_append, LV] <;> omega)) only [go_sem, Nat.reduceAdd, Int.reduceAdd, Int.reduceSub, Int.reduceMul, Bool.not_true, Bool.not_false]; try rfl)
  | @sl bc n f rc hb hn =>
    have hbl := blt hb
    refine ⟨h ++ [⟨Sr (sl bc 0 n 1) ((0 : Nat) : Int) (dcH ((sd * 6907 + n : Nat) : Int) f n), true⟩], ⟨⟨Sr (sl bc 0 n 1) ((0 : Nat) : Int) (dcH ((sd * 6907 + n : Nat) : Int) f n), true⟩, by simp, 0, _, n, f, rfl, Nat.zero_le _, hn, .sl f (look_old hb _) (by omega)⟩, ⟨_, rfl⟩, ?_⟩
    (refine AC_begin (fun _ _ => Try.call38 _ _) Try.func38 rfl Try.ntmps38 Try.results38 (fun hwf => ?_); simp only [List.length_cons, List.length_nil, Nat.reduceAdd, Nat.reduceSub, List.replicate, List.cons_append, List.nil_append])
    (repeat (first | ((first | (refine And.intro ?_ ?_; focus exact PLA) | refine WA_seq (WA_region ?_) | refine WA_region ?_ | refine WA_exit ?_); try simp (maxSteps := 1000000) (disch := first | omega | rfl | decide | (simp only [List.length_cons, List.length_nil, List.length_append, LV] <;> omega)) only [go_sem, Nat.reduceAdd, Int.reduceAdd, Int.reduceSub, Int.reduceMul, Bool.not_true, Bool.not_false]) | (refine (WA_rb (id := 5) [15] (SubM.refl _) mixedOk ?_); simp only [List.size_toArray, List.length_cons, List.length_nil]; (repeat (first | ((first | (refine And.intro ?_ ?_; focus exact PLA) | refine RB_take false [0, 1, 2, 3, 6, 7, 8] 9 (by rfl) (by kernel_rfl) (by decide) (by decide +kernel) ?_ | refine RB_take true [4, 9] 7 (by rfl) (by kernel_rfl) (by decide) (by decide +kernel) ?_ | refine RB_take false [5, 10, 11, 12, 13, 14] 1 (by rfl) (by kernel_rfl) (by decide) (by decide +kernel) ?_ | refine RB_exec 15 _ (by rfl) (by decide +kernel) (by decide +kernel) ?_ | refine RB_done (by decide +kernel) ?_); try simp (maxSteps := 1000000) (disch := first | omega | rfl | decide | (simp only [List.length_cons, List.length_nil, List.length_append, LV] <;> omega)) only [go_sem, Nat.reduceAdd, Int.reduceAdd, Int.reduceSub, Int.reduceMul, Bool.not_true, Bool.not_false])))) | refine WA_seq ?_ | refine WA_block ?_ | (refine WA_skip ?_; try simp only [go_sem]) | (refine WA_ret ?_; try simp only [go_sem]) | refine WA_ct rfl ?_ | refine WA_cf rfl ?_))
    refine WA_forP (fun k => [(6, .int .i64 k), (16, J), (17, J), (18, J), (19, J), (20, J), (21, J), (22, J), (23, J), (24, J), (25, J), (26, J), (27, J), (28, J), (29, J), (30, J), (31, J), (32, J), (33, J), (34, J), (35, J), (36, J)]) (fun k => [(0, ⟨Sr (sl bc 0 n 1) ((0 : Nat) : Int) (dcH ((sd * 6907 + n : Nat) : Int) f k), true⟩)]) (n) ?_ ?_ ?_ <;> (try simp only [patT_cons, patT_nil, patL_cons, patL_nil, list_set_zero, list_set_succ, blk_set_zero, blk_set_succ])
    · (refine Drop_slots (by first | exact Nat.le_refl _ | simp) ?_; focus ((try simp only [JL_same, JL_J, JL_nil, Int.reduceAdd, Nat.sub_sub, Int.natCast_add, Int.natCast_one, Int.natCast_zero, Int.cast_ofNat_Int, Nat.add_zero, Bool.false_eq_true, if_false, if_true]); (try exact JL_refl _)))
    · intro k hk
      have hx := u8_lt (f k)
      (repeat (first | ((first | (refine And.intro ?_ ?_; focus exact PLA) | refine WA_seq (WA_region ?_) | refine WA_region ?_ | refine WA_exit ?_); try simp (maxSteps := 1000000) (disch := first | omega | rfl | decide | (simp only [List.length_cons, List.length_nil, List.length_append, LV] <;> omega)) only [go_sem, Nat.reduceAdd, Int.reduceAdd, Int.reduceSub, Int.reduceMul, Bool.not_true, Bool.not_false, look_old hb, decide_eq_true hk, show IntKind.u64.wrap (IntKind.u64.wrap (IntKind.u64.wrap (dcH ((sd * 6907 + n : Nat) : Int) f k * 1099511628211) + ((f k).toNat : Int)) + 5) = dcH ((sd * 6907 + n : Nat) : Int) f (k + 1) from rfl]) | (refine (WA_rb (id := 5) [15] (SubM.refl _) mixedOk ?_); simp only [List.size_toArray, List.length_cons, List.length_nil]; (repeat (first | ((first | (refine And.intro ?_ ?_; focus exact PLA) | refine RB_take false [0, 1, 2, 3, 6, 7, 8] 9 (by rfl) (by kernel_rfl) (by decide) (by decide +kernel) ?_ | refine RB_take true [4, 9] 7 (by rfl) (by kernel_rfl) (by decide) (by decide +kernel) ?_ | refine RB_take false [5, 10, 11, 12, 13, 14] 1 (by rfl) (by kernel_rfl) (by decide) (by decide +kernel) ?_ | refine RB_exec 15 _ (by rfl) (by decide +kernel) (by decide +kernel) ?_ | refine RB_done (by decide +kernel) ?_); try simp (maxSteps := 1000000) (disch := first | omega | rfl | decide | (simp only [List.length_cons, List.length_nil, List.length_append, LV] <;> omega)) only [go_sem, Nat.reduceAdd, Int.reduceAdd, Int.reduceSub, Int.reduceMul, Bool.not_true, Bool.not_false, look_old hb, decide_eq_true hk, show IntKind.u64.wrap (IntKind.u64.wrap (IntKind.u64.wrap (dcH ((sd * 6907 + n : Nat) : Int) f k * 1099511628211) + ((f k).toNat : Int)) + 5) = dcH ((sd * 6907 + n : Nat) : Int) f (k + 1) from rfl])))) | refine WA_seq ?_ | refine WA_block ?_ | (refine WA_skip ?_; try simp only [go_sem]) | (refine WA_ret ?_; try simp only [go_sem]) | refine WA_ct rfl ?_ | refine WA_cf rfl ?_))
      (refine Drop_slots (by first | exact Nat.le_refl _ | simp) ?_; focus ((try simp only [JL_same, JL_J, JL_nil, Int.reduceAdd, Nat.sub_sub, Int.natCast_add, Int.natCast_one, Int.natCast_zero, Int.cast_ofNat_Int, Nat.add_zero, Bool.false_eq_true, if_false, if_true]); (try exact JL_refl _)))
    · (repeat (first | ((first | (refine And.intro ?_ ?_; focus exact PLA) | refine WA_seq (WA_region ?_) | refine WA_region ?_ | refine WA_exit ?_); try simp (maxSteps := 1000000) (disch := first | omega | rfl | decide | (simp only [List.length_cons, List.length_nil, List.length_append, LV] <;> omega)) only [go_sem, Nat.reduceAdd, Int.reduceAdd, Int.reduceSub, Int.reduceMul, Bool.not_true, Bool.not_false, show decide (n < n) = false from decide_eq_false (Nat.lt_irrefl n)]) | refine WA_seq ?_ | refine WA_block ?_ | (refine WA_skip ?_; try simp only [go_sem]) | (refine WA_ret ?_; try simp only [go_sem]) | refine WA_ct rfl ?_ | refine WA_cf rfl ?_))
      ((first | refine ret_nA ?_ | refine ret_sA ?_ | refine ret_fA ?_); simp (maxSteps := 1000000) (disch := first | omega | rfl | decide | (simp only [List.length_cons, List.length_nil, List.length_append, LV] <;> omega)) only [go_sem, Nat.reduceAdd, Int.reduceAdd, Int.reduceSub, Int.reduceMul, Bool.not_true, Bool.not_false]; try rfl)

end Go.Proofs.Ytcfpninklbnifaa
/- Contracts for the law on layers. -/
namespace Go.Proofs.Ytcfpninklbnifaa
set_option linter.unusedSimpArgs false
set_option linter.unusedVariables false
set_option maxRecDepth 20000
set_option maxHeartbeats 1000000
open Go.Abs

theorem xor9_ac (f g : Nat → UInt8) (h : List Blk) : AC Try.prog 40 [.agg (Bs 16 f).toArray, .agg (Bs 16 g).toArray] h (.agg (Bs 16 (xorF f g)).toArray) h := by
  (refine AC_begin (fun _ _ => Try.call40 _ _) Try.func40 rfl Try.ntmps40 Try.results40 (fun hwf => ?_); simp only [List.length_cons, List.length_nil, Nat.reduceAdd, Nat.reduceSub, List.replicate, List.cons_append, List.nil_append])
  (repeat (first | ((first | (refine And.intro ?_ ?_; focus exact PLA) | refine WA_seq (WA_region ?_) | refine WA_region ?_ | refine WA_exit ?_); try simp (maxSteps := 1000000) (disch := first | omega | rfl | decide | (simp only [List.length_cons, List.length_nil, List.length_append, LV] <;> omega)) only [go_sem, Nat.reduceAdd, Int.reduceAdd, Int.reduceSub, Int.reduceMul, Bool.not_true, Bool.not_false]) | (refine (WA_rb (id := 5) [9] (SubM.refl _) mixedOk ?_); simp only [List.size_toArray, List.length_cons, List.length_nil]; (repeat (first | ((first | (refine And.intro ?_ ?_; focus exact PLA) | refine RB_take false [0, 1, 2, 4, 5] 5 (by rfl) (by kernel_rfl) (by decide) (by decide +kernel) ?_ | refine RB_take true [3, 6] 3 (by rfl) (by kernel_rfl) (by decide) (by decide +kernel) ?_ | refine RB_take false [7, 8] 1 (by rfl) (by kernel_rfl) (by decide) (by decide +kernel) ?_ | refine RB_exec 9 _ (by rfl) (by decide +kernel) (by decide +kernel) ?_ | refine RB_done (by decide +kernel) ?_); try simp (maxSteps := 1000000) (disch := first | omega | rfl | decide | (simp only [List.length_cons, List.length_nil, List.length_append, LV] <;> omega)) only [go_sem, Nat.reduceAdd, Int.reduceAdd, Int.reduceSub, Int.reduceMul, Bool.not_true, Bool.not_false])))) | refine WA_seq ?_ | refine WA_block ?_ | (refine WA_skip ?_; try simp only [go_sem]) | (refine WA_ret ?_; try simp only [go_sem]) | refine WA_ct rfl ?_ | refine WA_cf rfl ?_))
  refine WA_forP (fun k => [(6, .int .i64 k), (8, J), (9, J), (10, J), (11, J), (12, J), (13, J), (14, J), (15, J), (16, J), (17, J), (18, J), (19, J), (20, J)]) (fun k => [(3, ⟨Bs 16 (pre k (xorF f g) zeroF), true⟩)]) (16) ?_ ?_ ?_ <;> (try simp only [patT_cons, patT_nil, patL_cons, patL_nil, list_set_zero, list_set_succ, blk_set_zero, blk_set_succ])
  · rw [pre_zero]
    (refine Drop_slots (by first | exact Nat.le_refl _ | simp) ?_; focus ((try simp only [JL_same, JL_J, JL_nil, Int.reduceAdd, Nat.sub_sub, Int.natCast_add, Int.natCast_one, Int.natCast_zero, Int.cast_ofNat_Int, Nat.add_zero, Bool.false_eq_true, if_false, if_true, zeroF]); (try exact JL_refl _)))
  · intro k hk
    (repeat (first | ((first | (refine And.intro ?_ ?_; focus exact PLA) | refine WA_seq (WA_region ?_) | refine WA_region ?_ | refine WA_exit ?_); try simp (maxSteps := 1000000) (disch := first | omega | rfl | decide | (simp only [List.length_cons, List.length_nil, List.length_append, LV] <;> omega)) only [go_sem, Nat.reduceAdd, Int.reduceAdd, Int.reduceSub, Int.reduceMul, Bool.not_true, Bool.not_false, show f k ^^^ g k = xorF f g k from rfl, upd_pre]) | (refine (WA_rb (id := 5) [9] (SubM.refl _) mixedOk ?_); simp only [List.size_toArray, List.length_cons, List.length_nil]; (repeat (first | ((first | (refine And.intro ?_ ?_; focus exact PLA) | refine RB_take false [0, 1, 2, 4, 5] 5 (by rfl) (by kernel_rfl) (by decide) (by decide +kernel) ?_ | refine RB_take true [3, 6] 3 (by rfl) (by kernel_rfl) (by decide) (by decide +kernel) ?_ | refine RB_take false [7, 8] 1 (by rfl) (by kernel_rfl) (by decide) (by decide +kernel) ?_ | refine RB_exec 9 _ (by rfl) (by decide +kernel) (by decide +kernel) ?_ | refine RB_done (by decide +kernel) ?_); try simp (maxSteps := 1000000) (disch := first | omega | rfl | decide | (simp only [List.length_cons, List.length_nil, List.length_append, LV] <;> omega)) only [go_sem, Nat.reduceAdd, Int.reduceAdd, Int.reduceSub, Int.reduceMul, Bool.not_true, Bool.not_false, show f k ^^^ g k = xorF f g k from rfl, upd_pre])))) | refine WA_seq ?_ | refine WA_block ?_ | (refine WA_skip ?_; try simp only [go_sem]) | (refine WA_ret ?_; try simp only [go_sem]) | refine WA_ct rfl ?_ | refine WA_cf rfl ?_))
    (refine Drop_slots (by first | exact Nat.le_refl _ | simp) ?_; focus ((try simp only [JL_same, JL_J, JL_nil, Int.reduceAdd, Nat.sub_sub, Int.natCast_add, Int.natCast_one, Int.natCast_zero, Int.cast_ofNat_Int, Nat.add_zero, Bool.false_eq_true, if_false, if_true]); (try exact JL_refl _)))
  · (repeat (first | ((first | (refine And.intro ?_ ?_; focus exact PLA) | refine WA_seq (WA_region ?_) | refine WA_region ?_ | refine WA_exit ?_); try simp (maxSteps := 1000000) (disch := first | omega | rfl | decide | (simp only [List.length_cons, List.length_nil, List.length_append, LV] <;> omega)) only [go_sem, Nat.reduceAdd, Int.reduceAdd, Int.reduceSub, Int.reduceMul, Bool.not_true, Bool.not_false, Bs_pre]) | (refine (WA_rb (id := 5) [9] (SubM.refl _) mixedOk ?_); simp only [List.size_toArray, List.length_cons, List.length_nil]; (repeat (first | ((first | (refine And.intro ?_ ?_; focus exact PLA) | refine RB_take false [0, 1, 2, 4, 5] 5 (by rfl) (by kernel_rfl) (by decide) (by decide +kernel) ?_ | refine RB_take true [3, 6] 3 (by rfl) (by kernel_rfl) (by decide) (by decide +kernel) ?_ | refine RB_take false [7, 8] 1 (by rfl) (by kernel_rfl) (by decide) (by decide +kernel) ?_ | refine RB_exec 9 _ (by rfl) (by decide +kernel) (by decide +kernel) ?_ | refine RB_done (by decide +kernel) ?_); try simp (maxSteps := 1000000) (disch := first | omega | rfl | decide | (simp only [List.length_cons, List.length_nil, List.length_append, LV] <;> omega)) only [go_sem, Nat.reduceAdd, Int.reduceAdd, Int.reduceSub, Int.reduceMul, Bool.not_true, Bool.not_false, Bs_pre])))) | refine WA_seq ?_ | refine WA_block ?_ | (refine WA_skip ?_; try simp only [go_sem]) | (refine WA_ret ?_; try simp only [go_sem]) | refine WA_ct rfl ?_ | refine WA_cf rfl ?_))
    ((first | refine ret_nA ?_ | refine ret_sA ?_ | refine ret_fA ?_); simp (maxSteps := 1000000) (disch := first | omega | rfl | decide | (simp only [List.length_cons, List.length_nil, List.length_append, LV] <;> omega)) only [go_sem, Nat.reduceAdd, Int.reduceAdd, Int.reduceSub, Int.reduceMul, Bool.not_true, Bool.not_false]; try rfl)

theorem likeI_nil (h : List Blk) : AC Try.prog 37 [.slice none 0 0, .slice none 0 0] h (.bool true) h := by
  (refine AC_begin (fun _ _ => Try.call37 _ _) Try.func37 rfl Try.ntmps37 Try.results37 (fun hwf => ?_); simp only [List.length_cons, List.length_nil, Nat.reduceAdd, Nat.reduceSub, List.replicate, List.cons_append, List.nil_append])
  (repeat (first | ((first | (refine And.intro ?_ ?_; focus exact PLA) | refine WA_seq (WA_region ?_) | refine WA_region ?_ | refine WA_exit ?_); try simp (maxSteps := 1000000) (disch := first | omega | rfl | decide | (simp only [List.length_cons, List.length_nil, List.length_append, LV] <;> omega)) only [go_sem, Nat.reduceAdd, Int.reduceAdd, Int.reduceSub, Int.reduceMul, Bool.not_true, Bool.not_false, bne_self_eq_false]) | (refine WA_seq (WA_draw (id := 6) mixedOk (by kernel_rfl) ?_); simp (maxSteps := 1000000) (disch := first | omega | rfl | decide | (simp only [List.length_cons, List.length_nil, List.length_append, LV] <;> omega)) only [go_sem, Nat.reduceAdd, Int.reduceAdd, Int.reduceSub, Int.reduceMul, Bool.not_true, Bool.not_false, bne_self_eq_false]) | (refine WA_draw (id := 6) mixedOk (by kernel_rfl) ?_; simp (maxSteps := 1000000) (disch := first | omega | rfl | decide | (simp only [List.length_cons, List.length_nil, List.length_append, LV] <;> omega)) only [go_sem, Nat.reduceAdd, Int.reduceAdd, Int.reduceSub, Int.reduceMul, Bool.not_true, Bool.not_false, bne_self_eq_false]) | refine WA_seq ?_ | refine WA_block ?_ | (refine WA_skip ?_; try simp only [go_sem]) | (refine WA_ret ?_; try simp only [go_sem]) | refine WA_ct rfl ?_ | refine WA_cf rfl ?_))
  refine WA_forH (fun k => [(4, J), (5, .int .i64 k), (11, J), (12, J), (13, J), (14, J), (15, J), (16, J), (17, J), (18, J), (19, J), (20, J), (21, J), (22, J), (23, J), (24, J), (25, J)]) (fun k => h) (0) ?_ ?_ ?_ <;> (try simp only [patT_cons, patT_nil, patL_cons, patL_nil, list_set_zero, list_set_succ, blk_set_zero, blk_set_succ])
  · (refine Drop_slots (by first | exact Nat.le_refl _ | simp) ?_; focus ((try simp only [JL_same, JL_J, JL_nil, Int.reduceAdd, Nat.sub_sub, Int.natCast_add, Int.natCast_one, Int.natCast_zero, Int.cast_ofNat_Int, Nat.add_zero, Bool.false_eq_true, if_false, if_true]); (try exact JL_refl _)))
  · intro k hk
    omega
  · (repeat (first | ((first | (refine And.intro ?_ ?_; focus exact PLA) | refine WA_seq (WA_region ?_) | refine WA_region ?_ | refine WA_exit ?_); try simp (maxSteps := 1000000) (disch := first | omega | rfl | decide | (simp only [List.length_cons, List.length_nil, List.length_append, LV] <;> omega)) only [go_sem, Nat.reduceAdd, Int.reduceAdd, Int.reduceSub, Int.reduceMul, Bool.not_true, Bool.not_false]) | (refine WA_seq (WA_draw (id := 6) mixedOk (by kernel_rfl) ?_); simp (maxSteps := 1000000) (disch := first | omega | rfl | decide | (simp only [List.length_cons, List.length_nil, List.length_append, LV] <;> omega)) only [go_sem, Nat.reduceAdd, Int.reduceAdd, Int.reduceSub, Int.reduceMul, Bool.not_true, Bool.not_false]) | (refine WA_draw (id := 6) mixedOk (by kernel_rfl) ?_; simp (maxSteps := 1000000) (disch := first | omega | rfl | decide | (simp only [List.length_cons, List.length_nil, List.length_append, LV] <;> omega)) only [go_sem, Nat.reduceAdd, Int.reduceAdd, Int.reduceSub, Int.reduceMul, Bool.not_true, Bool.not_false]) | refine WA_seq ?_ | refine WA_block ?_ | (refine WA_skip ?_; try simp only [go_sem]) | (refine WA_ret ?_; try simp only [go_sem]) | refine WA_ct rfl ?_ | refine WA_cf rfl ?_))
    ((first | refine ret_nA ?_ | refine ret_sA ?_ | refine ret_fA ?_); simp (maxSteps := 1000000) (disch := first | omega | rfl | decide | (simp only [List.length_cons, List.length_nil, List.length_append, LV] <;> omega)) only [go_sem, Nat.reduceAdd, Int.reduceAdd, Int.reduceSub, Int.reduceMul, Bool.not_true, Bool.not_false]; try rfl)
theorem likeI_ac {h : List Blk} {b b' n : Nat} {f : Nat → Int} {r r' : Bool} (hb : h[b]? = some ⟨Is n f, r⟩) (hb' : h[b']? = some ⟨Is n f, r'⟩) (hn : n ≤ 1048576) : AC Try.prog 37 [sl b 0 n 1, sl b' 0 n 1] h (.bool true) h := by
  have hbl := blt hb
  have hbl' := blt hb'
  (refine AC_begin (fun _ _ => Try.call37 _ _) Try.func37 rfl Try.ntmps37 Try.results37 (fun hwf => ?_); simp only [List.length_cons, List.length_nil, Nat.reduceAdd, Nat.reduceSub, List.replicate, List.cons_append, List.nil_append])
  (repeat (first | ((first | (refine And.intro ?_ ?_; focus exact PLA) | refine WA_seq (WA_region ?_) | refine WA_region ?_ | refine WA_exit ?_); try simp (maxSteps := 1000000) (disch := first | omega | rfl | decide | (simp only [List.length_cons, List.length_nil, List.length_append, LV] <;> omega)) only [go_sem, Nat.reduceAdd, Int.reduceAdd, Int.reduceSub, Int.reduceMul, Bool.not_true, Bool.not_false, bne_self_eq_false]) | (refine WA_seq (WA_draw (id := 6) mixedOk (by kernel_rfl) ?_); simp (maxSteps := 1000000) (disch := first | omega | rfl | decide | (simp only [List.length_cons, List.length_nil, List.length_append, LV] <;> omega)) only [go_sem, Nat.reduceAdd, Int.reduceAdd, Int.reduceSub, Int.reduceMul, Bool.not_true, Bool.not_false, bne_self_eq_false]) | (refine WA_draw (id := 6) mixedOk (by kernel_rfl) ?_; simp (maxSteps := 1000000) (disch := first | omega | rfl | decide | (simp only [List.length_cons, List.length_nil, List.length_append, LV] <;> omega)) only [go_sem, Nat.reduceAdd, Int.reduceAdd, Int.reduceSub, Int.reduceMul, Bool.not_true, Bool.not_false, bne_self_eq_false]) | refine WA_seq ?_ | refine WA_block ?_ | (refine WA_skip ?_; try simp only [go_sem]) | (refine WA_ret ?_; try simp only [go_sem]) | refine WA_ct rfl ?_ | refine WA_cf rfl ?_))
  refine WA_forH (fun k => [(4, J), (5, .int .i64 k), (11, J), (12, J), (13, J), (14, J), (15, J), (16, J), (17, J), (18, J), (19, J), (20, J), (21, J), (22, J), (23, J), (24, J), (25, J)]) (fun k => h) (n) ?_ ?_ ?_ <;> (try simp only [patT_cons, patT_nil, patL_cons, patL_nil, list_set_zero, list_set_succ, blk_set_zero, blk_set_succ])
  · (refine Drop_slots (by first | exact Nat.le_refl _ | simp) ?_; focus ((try simp only [JL_same, JL_J, JL_nil, Int.reduceAdd, Nat.sub_sub, Int.natCast_add, Int.natCast_one, Int.natCast_zero, Int.cast_ofNat_Int, Nat.add_zero, Bool.false_eq_true, if_false, if_true]); (try exact JL_refl _)))
  · intro k hk
    (repeat (first | ((first | (refine And.intro ?_ ?_; focus exact PLA) | refine WA_seq (WA_region ?_) | refine WA_region ?_ | refine WA_exit ?_); try simp (maxSteps := 1000000) (disch := first | omega | rfl | decide | (simp only [List.length_cons, List.length_nil, List.length_append, LV] <;> omega)) only [go_sem, Nat.reduceAdd, Int.reduceAdd, Int.reduceSub, Int.reduceMul, Bool.not_true, Bool.not_false, hb, hb', bne_self_eq_false]) | (refine WA_seq (WA_draw (id := 6) mixedOk (by kernel_rfl) ?_); simp (maxSteps := 1000000) (disch := first | omega | rfl | decide | (simp only [List.length_cons, List.length_nil, List.length_append, LV] <;> omega)) only [go_sem, Nat.reduceAdd, Int.reduceAdd, Int.reduceSub, Int.reduceMul, Bool.not_true, Bool.not_false, hb, hb', bne_self_eq_false]) | (refine WA_draw (id := 6) mixedOk (by kernel_rfl) ?_; simp (maxSteps := 1000000) (disch := first | omega | rfl | decide | (simp only [List.length_cons, List.length_nil, List.length_append, LV] <;> omega)) only [go_sem, Nat.reduceAdd, Int.reduceAdd, Int.reduceSub, Int.reduceMul, Bool.not_true, Bool.not_false, hb, hb', bne_self_eq_false]) | refine WA_seq ?_ | refine WA_block ?_ | (refine WA_skip ?_; try simp only [go_sem]) | (refine WA_ret ?_; try simp only [go_sem]) | refine WA_ct rfl ?_ | refine WA_cf rfl ?_))
    (refine Drop_slots (by first | exact Nat.le_refl _ | simp) ?_; focus ((try simp only [JL_same, JL_J, JL_nil, Int.reduceAdd, Nat.sub_sub, Int.natCast_add, Int.natCast_one, Int.natCast_zero, Int.cast_ofNat_Int, Nat.add_zero, Bool.false_eq_true, if_false, if_true]); (try exact JL_refl _)))
  · (repeat (first | ((first | (refine And.intro ?_ ?_; focus exact PLA) | refine WA_seq (WA_region ?_) | refine WA_region ?_ | refine WA_exit ?_); try simp (maxSteps := 1000000) (disch := first | omega | rfl | decide | (simp only [List.length_cons, List.length_nil, List.length_append, LV] <;> omega)) only [go_sem, Nat.reduceAdd, Int.reduceAdd, Int.reduceSub, Int.reduceMul, Bool.not_true, Bool.not_false]) | (refine WA_seq (WA_draw (id := 6) mixedOk (by kernel_rfl) ?_); simp (maxSteps := 1000000) (disch := first | omega | rfl | decide | (simp only [List.length_cons, List.length_nil, List.length_append, LV] <;> omega)) only [go_sem, Nat.reduceAdd, Int.reduceAdd, Int.reduceSub, Int.reduceMul, Bool.not_true, Bool.not_false]) | (refine WA_draw (id := 6) mixedOk (by kernel_rfl) ?_; simp (maxSteps := 1000000) (disch := first | omega | rfl | decide | (simp only [List.length_cons, List.length_nil, List.length_append, LV] <;> omega)) only [go_sem, Nat.reduceAdd, Int.reduceAdd, Int.reduceSub, Int.reduceMul, Bool.not_true, Bool.not_false]) | refine WA_seq ?_ | refine WA_block ?_ | (refine WA_skip ?_; try simp only [go_sem]) | (refine WA_ret ?_; try simp only [go_sem]) | refine WA_ct rfl ?_ | refine WA_cf rfl ?_))
    ((first | refine ret_nA ?_ | refine ret_sA ?_ | refine ret_fA ?_); simp (maxSteps := 1000000) (disch := first | omega | rfl | decide | (simp only [List.length_cons, List.length_nil, List.length_append, LV] <;> omega)) only [go_sem, Nat.reduceAdd, Int.reduceAdd, Int.reduceSub, Int.reduceMul, Bool.not_true, Bool.not_false]; try rfl)

theorem step_op (m r : Int) (bx mx pl d e : Nat → UInt8) (last : Bool) (h : List Blk) : ∃ (vI vS : Value) (code : Int) (H1 H2 : List Blk), (∃ A, H1 = h ++ A) ∧ (∃ A, H2 = H1 ++ A) ∧
    AC Try.prog 34 [.agg (Ci m bx mx pl r).toArray, .agg (Bs 16 d).toArray, .agg (Bs 16 e).toArray, .bool last] h (.tuple #[vI, .int .i64 code]) H1 ∧
    AC Try.prog 36 [.agg (Ci m bx mx pl r).toArray, .agg (Bs 16 d).toArray, .agg (Bs 16 e).toArray, .bool last] H1 (.tuple #[vS, .int .i64 code]) H2 ∧
    AC Try.prog 37 [vI, vS] H2 (.bool true) H2 ∧ isTup vI = false ∧ isTup vS = false := by
  cases hc : cipB m bx mx pl r
  · exact ⟨_, _, 1, h, h, ⟨[], by simp⟩, ⟨[], by simp⟩, stepOI_no hc d e last h, stepOS_no hc d e last h, likeI_nil h, rfl, rfl⟩
  · obtain ⟨k, rfl, h0, h1, _, _, hp, _⟩ := cipB_nat hc
    cases hb : allB (stB bx d (befF k mx pl e last)) 16
    · exact ⟨_, _, 4, h, h, ⟨[], by simp⟩, ⟨[], by simp⟩, stepOI_bad h0 h1 hc hp hb h, stepOS_bad h0 h1 hc hp hb h, likeI_nil h, rfl, rfl⟩
    · refine ⟨_, _, 0, _, _, ⟨_, rfl⟩, ⟨_, rfl⟩, stepOI_ok h0 h1 hc hp hb h, stepOS_ok h0 h1 hc hp hb _, likeI_ac (n := 16) (f := stF bx d (befF k mx pl e last)) (r := true) (r' := true) ?_ ?_ (by omega), rfl, rfl⟩
      · simp
      · simp

def lenV : Value → Nat
  | .slice _ n _ => n
  | _ => 0
theorem Cd.len {h : List Blk} {b n : Nat} {cv : Value} {f : Nat → UInt8} (c : Cd h b cv n f) : n = lenV cv := by cases c <;> rfl
theorem Src.of {h M : List Blk} {b : Nat} {cv : Value} {k k' : Blk} (s : Src h b cv k) (s' : Src M b cv k') : Src h b cv k' := by
  obtain ⟨a0, hs0, n0, f0, e0, h10, h20, c0⟩ := s
  obtain ⟨a, hs, n, f, e, h1, h2, c⟩ := s'
  exact ⟨a, hs, n0, f0, e, by rw [c0.len, ← c.len]; exact h1, h20, c0⟩
theorem block9_ex {h : List Blk} {b : Nat} {cv : Value} {k : Blk} (hb : h[b]? = some k) (hk : Src h b cv k) :
    ∃ (f : Nat → UInt8) (k' : Blk), Src h b cv k' ∧ AC Try.prog 39 [pt b 0] h (.agg (Bs 16 f).toArray) (h.set b k' ++ [⟨Bs 16 f, true⟩, ⟨Bs 16 f, true⟩]) := by
  have hbl := blt hb
  obtain ⟨st, e0, hI, hRt⟩ := seq_ex (S := Blk × (Nat → UInt8)) (n := 16)
    (I := fun _ s => Src h b cv s.1)
    (R := fun k s t => ∃ (x : Nat), x < 256 ∧ AC Try.prog 41 [pt b 0, .int .i64 ((256 : Nat) : Int)] (h.set b s.1 ++ [⟨Bs 16 zeroF, true⟩, ⟨Bs 16 s.2, true⟩]) (.int .i64 x) (h.set b t.1 ++ [⟨Bs 16 zeroF, true⟩, ⟨Bs 16 s.2, true⟩]) ∧ t.2 = upd s.2 k (UInt8.ofNat x))
    (k, zeroF) hk (fun j hj s0 i1 => by
      have hs0 : (h.set b s0.1 ++ [(⟨Bs 16 zeroF, true⟩ : Blk), ⟨Bs 16 s0.2, true⟩])[b]? = some s0.1 := look_old (look_set hbl) _
      obtain ⟨x, k', hx, hk', c⟩ := below_ex hs0 ((i1.set s0.1).app _) (N := 256) (by omega) (by omega)
      have hl : b < (h.set b s0.1).length := by simpa using hbl
      rw [set_app hl, List.set_set] at c
      exact ⟨(k', upd s0.2 j (UInt8.ofNat x)), i1.of hk', x, hx, c, rfl⟩)
  have hlen : ∀ k', (h.set b k').length = h.length := fun k' => by simp
  refine ⟨(st 16).2, (st 16).1, hI 16 (Nat.le_refl _), ?_⟩
  (refine AC_begin (fun _ _ => Try.call39 _ _) Try.func39 rfl Try.ntmps39 Try.results39 (fun hwf => ?_); simp only [List.length_cons, List.length_nil, Nat.reduceAdd, Nat.reduceSub, List.replicate, List.cons_append, List.nil_append])
  (repeat (first | ((first | (refine And.intro ?_ ?_; focus exact PLA) | refine WA_seq (WA_region ?_) | refine WA_region ?_ | refine WA_exit ?_); try simp (maxSteps := 1000000) (disch := first | omega | rfl | decide | (simp only [List.length_cons, List.length_nil, List.length_append, LV] <;> omega)) only [go_sem, Nat.reduceAdd, Int.reduceAdd, Int.reduceSub, Int.reduceMul, Bool.not_true, Bool.not_false]) | refine WA_seq ?_ | refine WA_block ?_ | (refine WA_skip ?_; try simp only [go_sem]) | (refine WA_ret ?_; try simp only [go_sem]) | refine WA_ct rfl ?_ | refine WA_cf rfl ?_))
  have hM : ∀ j, h.length ≤ (h.set b (st j).1 ++ [(⟨Bs 16 zeroF, true⟩ : Blk), ⟨Bs 16 (st j).2, true⟩]).length := fun j => by simp
  refine WA_forH (fun k => [(4, .int .i64 k), (6, J), (7, J), (8, J), (9, J), (10, J), (11, J), (12, J), (13, J), (14, J)]) (fun k => h.set b (st k).1 ++ [⟨Bs 16 zeroF, true⟩, ⟨Bs 16 (st k).2, true⟩]) (16) ?_ ?_ ?_ <;> (try simp only [patT_cons, patT_nil, patL_cons, patL_nil, list_set_zero, list_set_succ, blk_set_zero, blk_set_succ])
  · have e1 : h.set b (st 0).1 = h := by rw [e0]; exact set_id hb
    rw [e1, show (st 0).2 = zeroF by rw [e0]]
    (refine Drop_slots (by first | exact Nat.le_refl _ | simp) ?_; focus ((try simp only [JL_same, JL_J, JL_nil, Int.reduceAdd, Nat.sub_sub, Int.natCast_add, Int.natCast_one, Int.natCast_zero, Int.cast_ofNat_Int, Nat.add_zero, Bool.false_eq_true, if_false, if_true, zeroF]); (try exact JL_refl _)))
  · intro k hk
    obtain ⟨y, hy, c, e⟩ := hRt k hk
    have j1 : (h.set b (st (k + 1)).1 ++ [(⟨Bs 16 zeroF, true⟩ : Blk), ⟨Bs 16 (st k).2, true⟩])[h.length + 1]? = some ⟨Bs 16 (st k).2, true⟩ := by
      rw [List.getElem?_append_right (by simp)]; simp
    have j2 : ∀ x, (h.set b (st (k + 1)).1 ++ [(⟨Bs 16 zeroF, true⟩ : Blk), ⟨Bs 16 (st k).2, true⟩]).set (h.length + 1) x = h.set b (st (k + 1)).1 ++ [⟨Bs 16 zeroF, true⟩, x] := fun x => by
      rw [List.set_append_right _ _ (by simp)]; simp
    have l1 : h.length ≤ (h.set b (st (k + 1)).1 ++ [(⟨Bs 16 zeroF, true⟩ : Blk), ⟨Bs 16 (upd (st k).2 k (UInt8.ofNat y)), true⟩]).length := by simp
    rw [e]
    (repeat (first | ((first | (refine And.intro ?_ ?_; focus exact PLA) | ((first | with_reducible apply callB_i | with_reducible apply callK_intro | with_reducible apply callQ_i); (focus (first | assumption | (with_reducible apply c <;> (first | assumption | rfl | (simp (disch := omega) only [go_sem]; first | done | rfl) | omega | decide | (simp; done))))); (try exact WP_au)) | refine WA_seq (WA_region ?_) | refine WA_region ?_ | refine WA_exit ?_); try simp (maxSteps := 1000000) (disch := first | omega | rfl | decide | (simp only [List.length_cons, List.length_nil, List.length_append, LV] <;> omega)) only [go_sem, Nat.reduceAdd, Int.reduceAdd, Int.reduceSub, Int.reduceMul, Bool.not_true, Bool.not_false, j1, j2]) | refine WA_seq ?_ | refine WA_block ?_ | (refine WA_skip ?_; try simp only [go_sem]) | (refine WA_ret ?_; try simp only [go_sem]) | refine WA_ct rfl ?_ | refine WA_cf rfl ?_))
    (refine Drop_slots (by first | assumption | exact Nat.le_refl _) ?_; focus ((try simp only [JL_same, JL_J, JL_nil, Int.reduceAdd, Nat.sub_sub, Int.natCast_add, Int.natCast_one, Int.natCast_zero, Int.cast_ofNat_Int, Nat.add_zero, Bool.false_eq_true, if_false, if_true]); (try exact JL_refl _)))
  · have j1 : (h.set b (st 16).1 ++ [(⟨Bs 16 zeroF, true⟩ : Blk), ⟨Bs 16 (st 16).2, true⟩])[h.length + 1]? = some ⟨Bs 16 (st 16).2, true⟩ := by
      rw [List.getElem?_append_right (by simp)]; simp
    have j0 : (h.set b (st 16).1 ++ [(⟨Bs 16 zeroF, true⟩ : Blk), ⟨Bs 16 (st 16).2, true⟩])[h.length]? = some ⟨Bs 16 zeroF, true⟩ := by
      rw [List.getElem?_append_right (by simp)]; simp
    have j2 : ∀ x, (h.set b (st 16).1 ++ [(⟨Bs 16 zeroF, true⟩ : Blk), ⟨Bs 16 (st 16).2, true⟩]).set h.length x = h.set b (st 16).1 ++ [x, ⟨Bs 16 (st 16).2, true⟩] := fun x => by
      rw [List.set_append_right _ _ (by simp)]; simp
    have j3 : (h.set b (st 16).1 ++ [(⟨Bs 16 (st 16).2, true⟩ : Blk), ⟨Bs 16 (st 16).2, true⟩])[h.length]? = some ⟨Bs 16 (st 16).2, true⟩ := by
      rw [List.getElem?_append_right (by simp)]; simp
    (repeat (first | ((first | (refine And.intro ?_ ?_; focus exact PLA) | refine WA_seq (WA_region ?_) | refine WA_region ?_ | refine WA_exit ?_); try simp (maxSteps := 1000000) (disch := first | omega | rfl | decide | (simp only [List.length_cons, List.length_nil, List.length_append, LV] <;> omega)) only [go_sem, Nat.reduceAdd, Int.reduceAdd, Int.reduceSub, Int.reduceMul, Bool.not_true, Bool.not_false, j1, j0, j2]) | refine WA_seq ?_ | refine WA_block ?_ | (refine WA_skip ?_; try simp only [go_sem]) | (refine WA_ret ?_; try simp only [go_sem]) | refine WA_ct rfl ?_ | refine WA_cf rfl ?_))
    refine ret_full (by first | exact .inr rfl | exact .inl rfl) (by simp) ?_
    simp (maxSteps := 1000000) (disch := first | omega | rfl | decide | (simp only [List.length_cons, List.length_nil, List.length_append, LV] <;> omega)) only [go_sem, Nat.reduceAdd, Int.reduceAdd, Int.reduceSub, Int.reduceMul, Bool.not_true, Bool.not_false, j3]
    try rfl
theorem block9_aft {h : List Blk} {b : Nat} {cv : Value} (s : SrcAt h b cv) :
    ∃ (f : Nat → UInt8) (h' : List Blk), Aft h h' b cv ∧ AC Try.prog 39 [pt b 0] h (.agg (Bs 16 f).toArray) h' := by
  obtain ⟨k, hb, hk⟩ := s
  obtain ⟨f, k', hk', c⟩ := block9_ex hb hk
  have a := aft_set (blt hb) hk'
  exact ⟨f, _, a.trans (a.src.more _), c⟩
theorem Src.but {M : List Blk} {b : Nat} {cv : Value} {k : Blk} (s : Src M b cv k) : Src (roBut b M) b cv k := by
  obtain ⟨a, hs, n, f, e, h1, h2, c⟩ := s
  exact ⟨a, hs, n, f, e, h1, h2, c.but⟩
theorem block9_N {M : List Blk} {b : Nat} {cv : Value} (s : SrcAt M b cv) :
    ∃ (f : Nat → UInt8) (k k' : Blk) (M' : List Blk), M[b]? = some k ∧ k.rw = true ∧ M' = M.set b k' ++ [⟨Bs 16 f, true⟩, ⟨Bs 16 f, true⟩] ∧ Aft M M' b cv ∧ AC Try.prog 39 [pt b 0] (roBut b M) (.agg (Bs 16 f).toArray) ((roBut b M).set b k' ++ [⟨Bs 16 f, true⟩, ⟨Bs 16 f, true⟩]) := by
  obtain ⟨k, hb, hk⟩ := s
  obtain ⟨f, k', hk', c⟩ := block9_ex (roBut_here hb) hk.but
  have hk2 := hk.of hk'
  have a := aft_set (blt hb) hk2
  obtain ⟨_, _, _, _, e, _⟩ := hk
  exact ⟨f, k, k', _, hb, by rw [e], rfl, a.trans (a.src.more _), c⟩

end Go.Proofs.Ytcfpninklbnifaa
/- What FnPlaces needs: cycles told with memory opaque, rows compared. -/
namespace Go.Proofs.Ytcfpninklbnifaa
set_option linter.unusedSimpArgs false
set_option linter.unusedVariables false
set_option maxRecDepth 20000
set_option maxHeartbeats 1000000
open Go.Abs

attribute [local irreducible] cyC cyRow
inductive CyV (p : Nat → UInt8) (h : List Blk) : Value → Prop
  | no (hp : plOk p = false) : CyV p h (.slice none 0 0)
  | ok (hp : plOk p = true) {b : Nat} {g : Nat → Nat} {r r' : Bool} (hb : h[b]? = some ⟨Vs (cyC p 16) fun j => sl (g j) 0 (cyRow p j).length 1, r⟩) (hr : ∀ j, j < cyC p 16 → h[g j]? = some ⟨Il (cyRow p j), r'⟩) : CyV p h (sl b 0 (cyC p 16) 1)
theorem CyV.app {p : Nat → UInt8} {h : List Blk} {v : Value} (c : CyV p h v) (L : List Blk) : CyV p (h ++ L) v := by
  cases c with
  | no hp => exact .no hp
  | ok hp hb hr => exact .ok hp (look_old hb L) fun j hj => look_old (hr j hj) L
theorem WA_wf {P : Program} {n0 : Nat} {c : Code} {Q : Exit → AS → Prop} {t : List Value} {H : List Blk} (k : WfH H → WA P n0 c Q ⟨t, H⟩) : WA P n0 c Q ⟨t, H⟩ := fun E a w hn hs => k hs.mem.wf E a w hn hs
def OldV (N : Nat) (v : Value) : Prop := ∀ (r : List Nat) (n' : Nat), N ≤ n' → v = renV N r v ∧ wfV n' v
theorem JR_old {N n' : Nat} {r : List Nat} {a : Value} {l l' : List Value} (ho : OldV N a) (hn : N ≤ n') (h : JR N r n' l l') : JR N r n' (a :: l) (a :: l') := ⟨.inr (ho r n' hn), h⟩
theorem OldV_plain {N : Nat} {v : Value} (h : plainV v = true) : OldV N v := fun _ _ _ => ⟨(renV_plain h).symm, plainV_wf h⟩
theorem OldV_sl {N b o n z : Nat} (h : b < N) : OldV N (sl b o n z) := fun r n' hn => by
  refine ⟨?_, show b < n' by omega⟩
  show sl b o n z = Value.slice (some (renA N r ⟨b, o, none⟩)) n z
  unfold renA
  rw [rhoF_old h]
theorem Cv.old {h : List Blk} {cv : Value} {N : Nat} (c : Cv h cv) (hN : h.length ≤ N) : OldV N cv := by
  cases c with
  | nil => exact OldV_plain rfl
  | sl hb hn => exact OldV_sl (Nat.lt_of_lt_of_le (blt hb) hN)
theorem Drop_gc0 {m : Nat} {t t' : List Value} {H L : List Blk} (hm : m ≤ H.length) (hwf : WfH H) (hj : JR H.length [] H.length t t') : Drop m ⟨t, H ++ L⟩ ⟨t', H⟩ := by
  have := Drop_gc (m := m) [] (L := L) (L' := []) hm hwf (by decide) trivial (by rw [List.append_nil]; exact hj)
  rwa [List.append_nil] at this
theorem app_tr {h H K : List Blk} (e : ∃ A, H = h ++ A) (e2 : ∃ A, K = H ++ A) : ∃ A, K = h ++ A := by
  obtain ⟨A, rfl⟩ := e
  obtain ⟨B, rfl⟩ := e2
  exact ⟨A ++ B, List.append_assoc ..⟩
end Go.Proofs.Ytcfpninklbnifaa
/- FnLayers. -/
namespace Go.Proofs.Ytcfpninklbnifaa
set_option linter.unusedSimpArgs false
set_option linter.unusedVariables false
set_option maxRecDepth 20000
set_option maxHeartbeats 1000000
open Go.Abs

def laT (m : Int) (bx mx pl d : Nat → UInt8) (r : Int) (last : Bool) : Nat → UInt8 := cond (cipB m bx mx pl r) (layF m.toNat mx pl d last) zeroF
def beT (m : Int) (bx mx pl d : Nat → UInt8) (r : Int) (last : Bool) : Nat → UInt8 := cond (cipB m bx mx pl r) (befF m.toNat mx pl d last) zeroF
def bsT (m : Int) (bx mx pl d : Nat → UInt8) (r : Int) (last : Bool) : Nat → UInt8 := cond (cipB m bx mx pl r) (layF m.toNat mx pl (bsF bx d) last) zeroF
theorem cipC_is' (m : Int) (bx mx pl : Nat → UInt8) (r : Int) : (cipC m bx mx pl r == 0) = cipB m bx mx pl r := by unfold cipC; cases cipB m bx mx pl r <;> rfl
theorem cipC_isn' (m : Int) (bx mx pl : Nat → UInt8) (r : Int) : (cipC m bx mx pl r != 0) = !cipB m bx mx pl r := by unfold cipC; cases cipB m bx mx pl r <;> rfl
theorem laT_xor {m : Int} {bx mx pl : Nat → UInt8} {r : Int} (hc : cipB m bx mx pl r = true) (a b : Nat → UInt8) (last : Bool) : laT m bx mx pl (xorF a b) r last = xorF (laT m bx mx pl a r last) (laT m bx mx pl b r last) := by
  unfold laT; rw [hc]; exact lay_xor a b last
theorem beT_laT {m : Int} {bx mx pl : Nat → UInt8} {r : Int} (hc : cipB m bx mx pl r = true) (d : Nat → UInt8) (last : Bool) : eqB 16 (beT m bx mx pl (laT m bx mx pl d r last) r last) d = true := by
  have hc' := hc
  obtain ⟨k, rfl, h0, h1, hf, hd, hp, n, rfl, _, _⟩ := cipB_nat hc'
  refine eqB_iff.2 fun i hi => ?_
  unfold beT laT
  rw [hc]
  exact bef_lay h0 h1 hf hd hp last (fun _ _ => rfl) hi
theorem laI_ac (m : Int) (bx mx pl d : Nat → UInt8) (r : Int) (last : Bool) (h : List Blk) : AC Try.prog 24 [.agg (Ci m bx mx pl r).toArray, .agg (Bs 16 d).toArray, .bool last] h (.tuple #[.agg (Bs 16 (laT m bx mx pl d r last)).toArray, .int .i64 (cipC m bx mx pl r)]) h := layOI_ac m r bx mx pl d last h
theorem laS_ac (m : Int) (bx mx pl d : Nat → UInt8) (r : Int) (last : Bool) (h : List Blk) : AC Try.prog 25 [.agg (Ci m bx mx pl r).toArray, .agg (Bs 16 d).toArray, .bool last] h (.tuple #[.agg (Bs 16 (laT m bx mx pl d r last)).toArray, .int .i64 (cipC m bx mx pl r)]) h := layOS_ac m r bx mx pl d last h
theorem beI_ac (m : Int) (bx mx pl d : Nat → UInt8) (r : Int) (last : Bool) (h : List Blk) : AC Try.prog 29 [.agg (Ci m bx mx pl r).toArray, .agg (Bs 16 d).toArray, .bool last] h (.tuple #[.agg (Bs 16 (beT m bx mx pl d r last)).toArray, .int .i64 (cipC m bx mx pl r)]) h := befOI_ac m r bx mx pl d last h
theorem beS_ac (m : Int) (bx mx pl d : Nat → UInt8) (r : Int) (last : Bool) (h : List Blk) : AC Try.prog 30 [.agg (Ci m bx mx pl r).toArray, .agg (Bs 16 d).toArray, .bool last] h (.tuple #[.agg (Bs 16 (beT m bx mx pl d r last)).toArray, .int .i64 (cipC m bx mx pl r)]) h := befOS_ac m r bx mx pl d last h
theorem bsI_ac (m : Int) (bx mx pl d : Nat → UInt8) (r : Int) (last : Bool) (h : List Blk) : AC Try.prog 32 [.agg (Ci m bx mx pl r).toArray, .agg (Bs 16 d).toArray, .bool last] h (.tuple #[.agg (Bs 16 (bsT m bx mx pl d r last)).toArray, .int .i64 (cipC m bx mx pl r)]) h := bestOI_ac m r bx mx pl d last h
theorem bsS_ac (m : Int) (bx mx pl d : Nat → UInt8) (r : Int) (last : Bool) (h : List Blk) : AC Try.prog 33 [.agg (Ci m bx mx pl r).toArray, .agg (Bs 16 d).toArray, .bool last] h (.tuple #[.agg (Bs 16 (bsT m bx mx pl d r last)).toArray, .int .i64 (cipC m bx mx pl r)]) h := bestOS_ac m r bx mx pl d last h
theorem stI_best {m : Int} {bx mx pl : Nat → UInt8} {r : Int} (hc : cipB m bx mx pl r = true) (d : Nat → UInt8) (last : Bool) (h : List Blk) : ∃ f : Nat → Nat, (∀ i, i < 16 → f i = difP bx (d i) 256 (bsF bx d i).toNat ∧ 1 ≤ f i ∧ f i ≤ 256 ∧ (d i = 0 → f i = 256)) ∧
    AC Try.prog 34 [.agg (Ci m bx mx pl r).toArray, .agg (Bs 16 d).toArray, .agg (Bs 16 (bsT m bx mx pl d r last)).toArray, .bool last] h (.tuple #[sl h.length 0 16 1, .int .i64 0]) (h ++ [⟨Is 16 fun i => ((f i : Nat) : Int), true⟩]) := by
  have hc' := hc
  obtain ⟨k, rfl, h0, h1, hf, hd, hp, n, rfl, _, _⟩ := cipB_nat hc'
  have e : bsT (k : Int) bx mx pl d (n : Int) last = layF k mx pl (bsF bx d) last := by unfold bsT; rw [hc]; rfl
  have hx : ∀ i, i < 16 → befF k mx pl (layF k mx pl (bsF bx d) last) last i = bsF bx d i := fun i hi => bef_lay h0 h1 hf hd hp last (fun _ _ => rfl) hi
  refine ⟨fun i => difP bx (d i) 256 (bsF bx d i).toNat, fun i _ => ⟨rfl, ?_, difP_le .., fun hz => ?_⟩, ?_⟩
  · show 1 ≤ difP bx (d i) 256 (bsF bx d i).toNat
    rw [bs_nat]; exact dif_some bx (d i)
  · show difP bx (d i) 256 (bsF bx d i).toNat = 256
    rw [bs_zero bx d hz, hz]; exact (dif_zero bx 256 (Nat.le_refl _)).1
  · rw [e]
    have c := stepOI_ok h0 h1 hc hp (d := d) (e := layF k mx pl (bsF bx d) last) (last := last) (st_ok hx) h
    have e2 : Is 16 (stF bx d (befF k mx pl (layF k mx pl (bsF bx d) last) last)) = Is 16 fun i => ((difP bx (d i) 256 (bsF bx d i).toNat : Nat) : Int) := Is_congr fun i hi => by
      unfold stF; rw [hx i hi]; rfl
    rw [e2] at c
    exact c
theorem pairI_one {m : Int} {bx mx pl : Nat → UInt8} {r : Int} (hc : cipB m bx mx pl r = true) (y b : Nat → UInt8) {i : Nat} (hi : i < 16) (s : UInt8) (h : List Blk) :
    AC Try.prog 42 [.agg (Ci m bx mx pl r).toArray, .agg (Bs 16 y).toArray, .agg (Bs 16 b).toArray, .int .i64 i, .agg (Bs 16 (upd zeroF i s)).toArray, .agg (Bs 16 (bsT m bx mx pl (upd zeroF i s) r true)).toArray, .int .i64 1] h
      (.tuple #[.int .i64 ((difP bx (upd zeroF i s i) 256 (bsF bx (upd zeroF i s) i).toNat : Nat) : Int), .int .i64 0]) h := by
  have hc' := hc
  obtain ⟨k, rfl, h0, h1, hf, hd, hp, n, rfl, hn, _⟩ := cipB_nat hc'
  have e : bsT (k : Int) bx mx pl (upd zeroF i s) (n : Int) true = layF k mx pl (bsF bx (upd zeroF i s)) true := by unfold bsT; rw [hc]; rfl
  rw [e]
  have c := pairI_ok h0 h1 hc hp y b (upd zeroF i s) (layF k mx pl (bsF bx (upd zeroF i s)) true) (n := 1) (i := i) (by unfold inR; simp; omega) (by unfold inR; simp; omega) (by omega) hi h
  rw [pairs_one hp hi s] at c
  rw [show upd zeroF i s i = s by simp [upd]]
  exact c
attribute [local irreducible] difP bestP layF befF mixF movF bsF encP cipB difI cntA
set_option maxHeartbeats 16000000 in
theorem fnLayers_ok {h : List Blk} {cv : Value} (c : Cv h cv) : AC Try.prog 4 [cv] h (.bool true) h := by
  have hbg := big_ac c
  obtain ⟨m1, bx1, mx1, pl1, dd, r1, l1, H1, hr1, e1, v1, d1⟩ := drLay_op c
  have lH1 := app_len e1
  obtain ⟨K1, hK1⟩ : ∃ M, M = H1 ++ [⟨Ci m1 bx1 mx1 pl1 r1, true⟩, ⟨Bs 16 dd, true⟩, ⟨Bs 16 (laT m1 bx1 mx1 pl1 dd r1 l1), true⟩, ⟨Bs 16 (laT m1 bx1 mx1 pl1 dd r1 l1), true⟩] := ⟨_, rfl⟩
  have k10 : K1[H1.length]? = some ⟨Ci m1 bx1 mx1 pl1 r1, true⟩ := by rw [hK1]; simp
  have k11 : K1[H1.length + 1]? = some ⟨Bs 16 dd, true⟩ := by rw [hK1]; simp
  have k12 : K1[H1.length + 2]? = some ⟨Bs 16 (laT m1 bx1 mx1 pl1 dd r1 l1), true⟩ := by rw [hK1]; simp
  have EK1 : ∃ A, K1 = h ++ A := by rw [hK1]; exact app_app e1
  have lK1 : K1.length = H1.length + 4 := by rw [hK1]; simp
  obtain ⟨m2, bx2, mx2, pl2, g2, r2, l2, H2, hr2, e2, v2, d2⟩ := drBef_op (cv_app c EK1 : Cv K1 cv)
  have lH2 := app_len e2
  obtain ⟨K2, hK2⟩ : ∃ M, M = H2 ++ [⟨Ci m2 bx2 mx2 pl2 r2, true⟩, ⟨Bs 16 g2, true⟩, ⟨Bs 16 (beT m2 bx2 mx2 pl2 g2 r2 l2), true⟩, ⟨Bs 16 (beT m2 bx2 mx2 pl2 g2 r2 l2), true⟩] := ⟨_, rfl⟩
  have EE2 : ∃ A, K2 = K1 ++ A := by rw [hK2]; exact app_app e2
  have EK2 := app_tr EK1 EE2
  have lK2 : K2.length = H2.length + 4 := by rw [hK2]; simp
  obtain ⟨m3, bx3, mx3, pl3, x3, r3, l3, H3, hr3, e3, v3, d3⟩ := drBes_op (cv_app c EK2 : Cv K2 cv)
  have lH3 := app_len e3
  obtain ⟨K3, hK3⟩ : ∃ M, M = H3 ++ [⟨Ci m3 bx3 mx3 pl3 r3, true⟩, ⟨Bs 16 x3, true⟩, ⟨Bs 16 (bsT m3 bx3 mx3 pl3 x3 r3 l3), true⟩, ⟨Bs 16 (bsT m3 bx3 mx3 pl3 x3 r3 l3), true⟩] := ⟨_, rfl⟩
  have k30 : K3[H3.length]? = some ⟨Ci m3 bx3 mx3 pl3 r3, true⟩ := by rw [hK3]; simp
  have k31 : K3[H3.length + 1]? = some ⟨Bs 16 x3, true⟩ := by rw [hK3]; simp
  have k32 : K3[H3.length + 2]? = some ⟨Bs 16 (bsT m3 bx3 mx3 pl3 x3 r3 l3), true⟩ := by rw [hK3]; simp
  have EE3 : ∃ A, K3 = K2 ++ A := by rw [hK3]; exact app_app e3
  have EK3 := app_tr EK2 EE3
  have lK3 : K3.length = H3.length + 4 := by rw [hK3]; simp
  obtain ⟨m4, bx4, mx4, pl4, u4, w4, r4, l4, H4, hr4, e4, v4, d4⟩ := drSte_op (cv_app c EK3 : Cv K3 cv)
  have lH4 := app_len e4
  obtain ⟨vI, vS, code4, G1, G2, f1, f2, s1, s2, s3, tI, tS⟩ := step_op m4 r4 bx4 mx4 pl4 u4 w4 l4 (H4 ++ [⟨Ci m4 bx4 mx4 pl4 r4, true⟩, ⟨Bs 16 u4, true⟩, ⟨Bs 16 w4, true⟩])
  have EE4 : ∃ A, G2 = K3 ++ A := app_tr (app_tr (app_app e4) f1) f2
  have E1G : ∃ A, G2 = K1 ++ A := app_tr EE2 (app_tr EE3 EE4)
  have EG : ∃ A, G2 = h ++ A := app_tr EK1 E1G
  have c40 : (G1)[H4.length]? = some ⟨Ci m4 bx4 mx4 pl4 r4, true⟩ := by obtain ⟨A, rfl⟩ := f1; simp
  have c41 : (G1)[H4.length + 1]? = some ⟨Bs 16 u4, true⟩ := by obtain ⟨A, rfl⟩ := f1; simp
  have c42 : (G1)[H4.length + 2]? = some ⟨Bs 16 w4, true⟩ := by obtain ⟨A, rfl⟩ := f1; simp
  have g10 : G2[H1.length]? = some ⟨Ci m1 bx1 mx1 pl1 r1, true⟩ := by obtain ⟨A, e⟩ := E1G; rw [e]; exact look_old k10 A
  have g11 : G2[H1.length + 1]? = some ⟨Bs 16 dd, true⟩ := by obtain ⟨A, e⟩ := E1G; rw [e]; exact look_old k11 A
  have g12 : G2[H1.length + 2]? = some ⟨Bs 16 (laT m1 bx1 mx1 pl1 dd r1 l1), true⟩ := by obtain ⟨A, e⟩ := E1G; rw [e]; exact look_old k12 A
  have nK3 := app_len EK3
  have lG := app_len E1G
  have nG := app_len EG
  have ov3 : OldV K3.length cv := c.old nK3
  (refine AC_begin (fun _ _ => Try.call4 _ _) Try.func4 rfl Try.ntmps4 Try.results4 (fun hwf => ?_); simp only [List.length_cons, List.length_nil, Nat.reduceAdd, Nat.reduceSub, List.replicate, List.cons_append, List.nil_append])
  (repeat (first | ((first | (refine And.intro ?_ ?_; focus exact PLA) | ((first | with_reducible apply callB_i | with_reducible apply callK_intro | with_reducible apply callQ_i); (focus (first | assumption | ((first | with_reducible apply hbg | with_reducible apply d1 | with_reducible apply laI_ac | with_reducible apply laS_ac | with_reducible apply actI_ac | with_reducible apply actS_ac) <;> (first | assumption | rfl | (simp (disch := omega) only [go_sem]; first | done | rfl) | omega | decide | (simp; done))))); (try exact WP_au)) | refine WA_seq (WA_region (id := 0) ?_) | refine WA_region (id := 0) ?_ | refine WA_seq (WA_region (id := 1) ?_) | refine WA_region (id := 1) ?_ | refine WA_seq (WA_region (id := 3) ?_) | refine WA_region (id := 3) ?_ | refine WA_seq (WA_region (id := 4) ?_) | refine WA_region (id := 4) ?_ | refine WA_seq (WA_region (id := 5) ?_) | refine WA_region (id := 5) ?_ | refine WA_exit ?_); try simp (maxSteps := 1000000) (disch := first | omega | rfl | decide | (simp only [List.length_cons, List.length_nil, List.length_append, LV] <;> omega)) only [go_sem, Nat.reduceAdd, Int.reduceAdd, Int.reduceSub, Int.reduceMul, Bool.not_true, Bool.not_false, bne_self_eq_false, beq_self_eq_true, eqB_self, Ci_stC, Ci_splice_all, yieldA_at 2 156, yieldA_at 2 254, yieldA_at 2 309, yieldA_at 3 76, yieldA_at 3 111, yieldA_at 3 139, yieldA_at 3 214, yieldA_at 5 170, yieldA_at 6 258, yieldA_at 6 313, yieldA_at 8 81, yieldA_at 10 262, yieldA_at 10 317, yieldA_at 16 181, yieldA_at 17 269]) | (refine WA_seq (WA_draw (id := 6) mixedOk (by kernel_rfl) ?_); simp (maxSteps := 1000000) (disch := first | omega | rfl | decide | (simp only [List.length_cons, List.length_nil, List.length_append, LV] <;> omega)) only [go_sem, Nat.reduceAdd, Int.reduceAdd, Int.reduceSub, Int.reduceMul, Bool.not_true, Bool.not_false, bne_self_eq_false, beq_self_eq_true, eqB_self, Ci_stC, Ci_splice_all, yieldA_at 2 156, yieldA_at 2 254, yieldA_at 2 309, yieldA_at 3 76, yieldA_at 3 111, yieldA_at 3 139, yieldA_at 3 214, yieldA_at 5 170, yieldA_at 6 258, yieldA_at 6 313, yieldA_at 8 81, yieldA_at 10 262, yieldA_at 10 317, yieldA_at 16 181, yieldA_at 17 269]) | (refine WA_draw (id := 6) mixedOk (by kernel_rfl) ?_; simp (maxSteps := 1000000) (disch := first | omega | rfl | decide | (simp only [List.length_cons, List.length_nil, List.length_append, LV] <;> omega)) only [go_sem, Nat.reduceAdd, Int.reduceAdd, Int.reduceSub, Int.reduceMul, Bool.not_true, Bool.not_false, bne_self_eq_false, beq_self_eq_true, eqB_self, Ci_stC, Ci_splice_all, yieldA_at 2 156, yieldA_at 2 254, yieldA_at 2 309, yieldA_at 3 76, yieldA_at 3 111, yieldA_at 3 139, yieldA_at 3 214, yieldA_at 5 170, yieldA_at 6 258, yieldA_at 6 313, yieldA_at 8 81, yieldA_at 10 262, yieldA_at 10 317, yieldA_at 16 181, yieldA_at 17 269]) | refine WA_seq ?_ | refine WA_block ?_ | (refine WA_skip ?_; try simp only [go_sem]) | (refine WA_ret ?_; try simp only [go_sem]) | refine WA_ct rfl ?_ | refine WA_cf rfl ?_))
  rw [← hK1]
  (repeat (first | ((first | (refine And.intro ?_ ?_; focus exact PLA) | ((first | with_reducible apply callB_i | with_reducible apply callK_intro | with_reducible apply callQ_i); (focus (first | assumption | ((first | with_reducible apply d2 | with_reducible apply beI_ac | with_reducible apply beS_ac) <;> (first | assumption | rfl | (simp (disch := omega) only [go_sem]; first | done | rfl) | omega | decide | (simp; done))))); (try exact WP_au)) | refine WA_seq (WA_region (id := 8) ?_) | refine WA_region (id := 8) ?_ | refine WA_seq (WA_region (id := 9) ?_) | refine WA_region (id := 9) ?_ | refine WA_seq (WA_region (id := 10) ?_) | refine WA_region (id := 10) ?_ | refine WA_seq (WA_region (id := 11) ?_) | refine WA_region (id := 11) ?_ | refine WA_exit ?_); try simp (maxSteps := 1000000) (disch := first | omega | rfl | decide | (simp only [List.length_cons, List.length_nil, List.length_append, LV] <;> omega)) only [go_sem, Nat.reduceAdd, Int.reduceAdd, Int.reduceSub, Int.reduceMul, Bool.not_true, Bool.not_false, bne_self_eq_false, eqB_self, Ci_stC, Ci_splice_all, yieldA_at 2 156, yieldA_at 2 254, yieldA_at 2 309, yieldA_at 3 76, yieldA_at 3 111, yieldA_at 3 139, yieldA_at 3 214, yieldA_at 5 170, yieldA_at 6 258, yieldA_at 6 313, yieldA_at 8 81, yieldA_at 10 262, yieldA_at 10 317, yieldA_at 16 181, yieldA_at 17 269]) | refine WA_seq ?_ | refine WA_block ?_ | (refine WA_skip ?_; try simp only [go_sem]) | (refine WA_ret ?_; try simp only [go_sem]) | refine WA_ct rfl ?_ | refine WA_cf rfl ?_))
  rw [← hK2]
  (repeat (first | ((first | (refine And.intro ?_ ?_; focus exact PLA) | ((first | with_reducible apply callB_i | with_reducible apply callK_intro | with_reducible apply callQ_i); (focus (first | assumption | ((first | with_reducible apply d3 | with_reducible apply bsI_ac | with_reducible apply bsS_ac) <;> (first | assumption | rfl | (simp (disch := omega) only [go_sem]; first | done | rfl) | omega | decide | (simp; done))))); (try exact WP_au)) | refine WA_seq (WA_region (id := 13) ?_) | refine WA_region (id := 13) ?_ | refine WA_seq (WA_region (id := 14) ?_) | refine WA_region (id := 14) ?_ | refine WA_seq (WA_region (id := 15) ?_) | refine WA_region (id := 15) ?_ | refine WA_seq (WA_region (id := 16) ?_) | refine WA_region (id := 16) ?_ | refine WA_seq (WA_region (id := 18) ?_) | refine WA_region (id := 18) ?_ | refine WA_exit ?_); try simp (maxSteps := 1000000) (disch := first | omega | rfl | decide | (simp only [List.length_cons, List.length_nil, List.length_append, LV] <;> omega)) only [go_sem, Nat.reduceAdd, Int.reduceAdd, Int.reduceSub, Int.reduceMul, Bool.not_true, Bool.not_false, bne_self_eq_false, eqB_self, Ci_stC, Ci_splice_all, cipC_is', yieldA_at 2 156, yieldA_at 2 254, yieldA_at 2 309, yieldA_at 3 76, yieldA_at 3 111, yieldA_at 3 139, yieldA_at 3 214, yieldA_at 5 170, yieldA_at 6 258, yieldA_at 6 313, yieldA_at 8 81, yieldA_at 10 262, yieldA_at 10 317, yieldA_at 16 181, yieldA_at 17 269]) | refine WA_seq ?_ | refine WA_block ?_ | (refine WA_skip ?_; try simp only [go_sem]) | (refine WA_ret ?_; try simp only [go_sem]) | refine WA_ct rfl ?_ | refine WA_cf rfl ?_))
  rw [← hK3]
  refine WA_wf fun hwf3 => ?_
  refine WA_midH [(2, J), (24, J), (25, J), (26, J), (144, J), (145, J), (146, J), (147, J), (148, J), (149, J), (150, J), (151, J), (152, J), (153, J), (154, J), (155, J), (156, J), (157, J), (158, J), (159, J), (160, J), (161, J), (162, J), (163, J), (164, J), (165, J), (166, J), (167, J), (168, J), (169, J), (170, J), (171, J), (172, J), (173, J), (174, J), (175, J), (176, J), (177, J), (178, J), (179, J), (180, J), (181, J), (182, J), (183, J), (184, J), (185, J), (186, J), (187, J)] ?_ ?_ <;> (try simp only [patT_cons, patT_nil, patL_cons, patL_nil, list_set_zero, list_set_succ, blk_set_zero, blk_set_succ])
  · refine WA_cond rfl (fun hb => ?_) (fun hb => ?_)
    · obtain ⟨f, hf, cf⟩ := stI_best hb x3 l3 K3
      have hle : h.length ≤ (K3 ++ [(⟨Is 16 fun i => ((f i : Nat) : Int), true⟩ : Blk)]).length := by rw [List.length_append]; omega
      (repeat (first | ((first | (refine And.intro ?_ ?_; focus exact PLA) | ((first | with_reducible apply callB_i | with_reducible apply callK_intro | with_reducible apply callQ_i); (focus (first | assumption | (with_reducible apply cf <;> (first | assumption | rfl | (simp (disch := omega) only [go_sem]; first | done | rfl) | omega | decide | (simp; done))))); (try exact WP_au)) | refine WA_seq (WA_region ?_) | refine WA_region ?_ | refine WA_exit ?_); try simp (maxSteps := 1000000) (disch := first | omega | rfl | decide | (simp only [List.length_cons, List.length_nil, List.length_append, LV] <;> omega)) only [go_sem, Nat.reduceAdd, Int.reduceAdd, Int.reduceSub, Int.reduceMul, Bool.not_true, Bool.not_false, k30, k31, k32, bne_self_eq_false, yieldA_at 2 156, yieldA_at 2 254, yieldA_at 2 309, yieldA_at 3 76, yieldA_at 3 111, yieldA_at 3 139, yieldA_at 3 214, yieldA_at 5 170, yieldA_at 6 258, yieldA_at 6 313, yieldA_at 8 81, yieldA_at 10 262, yieldA_at 10 317, yieldA_at 16 181, yieldA_at 17 269]) | refine WA_seq ?_ | refine WA_block ?_ | (refine WA_skip ?_; try simp only [go_sem]) | (refine WA_ret ?_; try simp only [go_sem]) | refine WA_ct rfl ?_ | refine WA_cf rfl ?_))
      refine WA_forP (fun k => [(2, J), (26, .int .i64 k), (161, J), (162, J), (163, J), (164, J), (165, J), (166, J), (167, J), (168, J), (169, J), (170, J), (171, J), (172, J), (173, J), (174, J), (175, J), (176, J), (177, J), (178, J), (179, J), (180, J), (181, J), (182, J), (183, J), (184, J), (185, J), (186, J), (187, J)]) (fun k => []) (16) ?_ ?_ ?_ <;> (try simp only [patT_cons, patT_nil, patL_cons, patL_nil, list_set_zero, list_set_succ, blk_set_zero, blk_set_succ])
      · (refine Drop_slots (by first | assumption | exact Nat.le_refl _) ?_; focus ((try simp only [JL_same, JL_J, JL_nil, Int.reduceAdd, Nat.sub_sub, Int.natCast_add, Int.natCast_one, Int.natCast_zero, Int.cast_ofNat_Int, Nat.add_zero, Bool.false_eq_true, if_false, if_true]); (try exact JL_refl _)))
      · intro k hk
        obtain ⟨q1, q2, q3, q4⟩ := hf k hk
        have n1 : decide (((f k : Nat) : Int) < 1) = false := decide_eq_false (by omega)
        cases e0 : x3 k == 0 <;> cases e6 : (((f k : Nat) : Int) == 256)
        · (repeat (first | ((first | (refine And.intro ?_ ?_; focus exact PLA) | refine WA_seq (WA_region ?_) | refine WA_region ?_ | refine WA_exit ?_); try simp (maxSteps := 1000000) (disch := first | omega | rfl | decide | (simp only [List.length_cons, List.length_nil, List.length_append, LV] <;> omega)) only [go_sem, Nat.reduceAdd, Int.reduceAdd, Int.reduceSub, Int.reduceMul, Bool.not_true, Bool.not_false, look_old k31, n1, e0, e6, beq_self_eq_true, Bool.not_true, Bool.not_false, show (false == true) = false from rfl, yieldA_at 2 156, yieldA_at 2 254, yieldA_at 2 309, yieldA_at 3 76, yieldA_at 3 111, yieldA_at 3 139, yieldA_at 3 214, yieldA_at 5 170, yieldA_at 6 258, yieldA_at 6 313, yieldA_at 8 81, yieldA_at 10 262, yieldA_at 10 317, yieldA_at 16 181, yieldA_at 17 269]) | (refine WA_seq (WA_draw (id := 25) mixedOk (by kernel_rfl) ?_); simp (maxSteps := 1000000) (disch := first | omega | rfl | decide | (simp only [List.length_cons, List.length_nil, List.length_append, LV] <;> omega)) only [go_sem, Nat.reduceAdd, Int.reduceAdd, Int.reduceSub, Int.reduceMul, Bool.not_true, Bool.not_false, look_old k31, n1, e0, e6, beq_self_eq_true, Bool.not_true, Bool.not_false, show (false == true) = false from rfl, yieldA_at 2 156, yieldA_at 2 254, yieldA_at 2 309, yieldA_at 3 76, yieldA_at 3 111, yieldA_at 3 139, yieldA_at 3 214, yieldA_at 5 170, yieldA_at 6 258, yieldA_at 6 313, yieldA_at 8 81, yieldA_at 10 262, yieldA_at 10 317, yieldA_at 16 181, yieldA_at 17 269]) | (refine WA_draw (id := 25) mixedOk (by kernel_rfl) ?_; simp (maxSteps := 1000000) (disch := first | omega | rfl | decide | (simp only [List.length_cons, List.length_nil, List.length_append, LV] <;> omega)) only [go_sem, Nat.reduceAdd, Int.reduceAdd, Int.reduceSub, Int.reduceMul, Bool.not_true, Bool.not_false, look_old k31, n1, e0, e6, beq_self_eq_true, Bool.not_true, Bool.not_false, show (false == true) = false from rfl, yieldA_at 2 156, yieldA_at 2 254, yieldA_at 2 309, yieldA_at 3 76, yieldA_at 3 111, yieldA_at 3 139, yieldA_at 3 214, yieldA_at 5 170, yieldA_at 6 258, yieldA_at 6 313, yieldA_at 8 81, yieldA_at 10 262, yieldA_at 10 317, yieldA_at 16 181, yieldA_at 17 269]) | refine WA_seq ?_ | refine WA_block ?_ | (refine WA_skip ?_; try simp only [go_sem]) | (refine WA_ret ?_; try simp only [go_sem]) | refine WA_ct rfl ?_ | refine WA_cf rfl ?_))
          (refine Drop_slots (by first | assumption | exact Nat.le_refl _) ?_; focus ((try simp only [JL_same, JL_J, JL_nil, Int.reduceAdd, Nat.sub_sub, Int.natCast_add, Int.natCast_one, Int.natCast_zero, Int.cast_ofNat_Int, Nat.add_zero, Bool.false_eq_true, if_false, if_true]); (try exact JL_refl _)))
        · (repeat (first | ((first | (refine And.intro ?_ ?_; focus exact PLA) | refine WA_seq (WA_region ?_) | refine WA_region ?_ | refine WA_exit ?_); try simp (maxSteps := 1000000) (disch := first | omega | rfl | decide | (simp only [List.length_cons, List.length_nil, List.length_append, LV] <;> omega)) only [go_sem, Nat.reduceAdd, Int.reduceAdd, Int.reduceSub, Int.reduceMul, Bool.not_true, Bool.not_false, look_old k31, n1, e0, e6, beq_self_eq_true, Bool.not_true, Bool.not_false, show (false == true) = false from rfl, yieldA_at 2 156, yieldA_at 2 254, yieldA_at 2 309, yieldA_at 3 76, yieldA_at 3 111, yieldA_at 3 139, yieldA_at 3 214, yieldA_at 5 170, yieldA_at 6 258, yieldA_at 6 313, yieldA_at 8 81, yieldA_at 10 262, yieldA_at 10 317, yieldA_at 16 181, yieldA_at 17 269]) | (refine WA_seq (WA_draw (id := 25) mixedOk (by kernel_rfl) ?_); simp (maxSteps := 1000000) (disch := first | omega | rfl | decide | (simp only [List.length_cons, List.length_nil, List.length_append, LV] <;> omega)) only [go_sem, Nat.reduceAdd, Int.reduceAdd, Int.reduceSub, Int.reduceMul, Bool.not_true, Bool.not_false, look_old k31, n1, e0, e6, beq_self_eq_true, Bool.not_true, Bool.not_false, show (false == true) = false from rfl, yieldA_at 2 156, yieldA_at 2 254, yieldA_at 2 309, yieldA_at 3 76, yieldA_at 3 111, yieldA_at 3 139, yieldA_at 3 214, yieldA_at 5 170, yieldA_at 6 258, yieldA_at 6 313, yieldA_at 8 81, yieldA_at 10 262, yieldA_at 10 317, yieldA_at 16 181, yieldA_at 17 269]) | (refine WA_draw (id := 25) mixedOk (by kernel_rfl) ?_; simp (maxSteps := 1000000) (disch := first | omega | rfl | decide | (simp only [List.length_cons, List.length_nil, List.length_append, LV] <;> omega)) only [go_sem, Nat.reduceAdd, Int.reduceAdd, Int.reduceSub, Int.reduceMul, Bool.not_true, Bool.not_false, look_old k31, n1, e0, e6, beq_self_eq_true, Bool.not_true, Bool.not_false, show (false == true) = false from rfl, yieldA_at 2 156, yieldA_at 2 254, yieldA_at 2 309, yieldA_at 3 76, yieldA_at 3 111, yieldA_at 3 139, yieldA_at 3 214, yieldA_at 5 170, yieldA_at 6 258, yieldA_at 6 313, yieldA_at 8 81, yieldA_at 10 262, yieldA_at 10 317, yieldA_at 16 181, yieldA_at 17 269]) | refine WA_seq ?_ | refine WA_block ?_ | (refine WA_skip ?_; try simp only [go_sem]) | (refine WA_ret ?_; try simp only [go_sem]) | refine WA_ct rfl ?_ | refine WA_cf rfl ?_))
          (refine Drop_slots (by first | assumption | exact Nat.le_refl _) ?_; focus ((try simp only [JL_same, JL_J, JL_nil, Int.reduceAdd, Nat.sub_sub, Int.natCast_add, Int.natCast_one, Int.natCast_zero, Int.cast_ofNat_Int, Nat.add_zero, Bool.false_eq_true, if_false, if_true]); (try exact JL_refl _)))
        · have hx : x3 k = 0 := by simpa using e0
          rw [q4 hx] at e6
          exact absurd e6 (by decide)
        · (repeat (first | ((first | (refine And.intro ?_ ?_; focus exact PLA) | refine WA_seq (WA_region ?_) | refine WA_region ?_ | refine WA_exit ?_); try simp (maxSteps := 1000000) (disch := first | omega | rfl | decide | (simp only [List.length_cons, List.length_nil, List.length_append, LV] <;> omega)) only [go_sem, Nat.reduceAdd, Int.reduceAdd, Int.reduceSub, Int.reduceMul, Bool.not_true, Bool.not_false, look_old k31, n1, e0, e6, beq_self_eq_true, Bool.not_true, Bool.not_false, yieldA_at 2 156, yieldA_at 2 254, yieldA_at 2 309, yieldA_at 3 76, yieldA_at 3 111, yieldA_at 3 139, yieldA_at 3 214, yieldA_at 5 170, yieldA_at 6 258, yieldA_at 6 313, yieldA_at 8 81, yieldA_at 10 262, yieldA_at 10 317, yieldA_at 16 181, yieldA_at 17 269]) | (refine WA_seq (WA_draw (id := 25) mixedOk (by kernel_rfl) ?_); simp (maxSteps := 1000000) (disch := first | omega | rfl | decide | (simp only [List.length_cons, List.length_nil, List.length_append, LV] <;> omega)) only [go_sem, Nat.reduceAdd, Int.reduceAdd, Int.reduceSub, Int.reduceMul, Bool.not_true, Bool.not_false, look_old k31, n1, e0, e6, beq_self_eq_true, Bool.not_true, Bool.not_false, yieldA_at 2 156, yieldA_at 2 254, yieldA_at 2 309, yieldA_at 3 76, yieldA_at 3 111, yieldA_at 3 139, yieldA_at 3 214, yieldA_at 5 170, yieldA_at 6 258, yieldA_at 6 313, yieldA_at 8 81, yieldA_at 10 262, yieldA_at 10 317, yieldA_at 16 181, yieldA_at 17 269]) | (refine WA_draw (id := 25) mixedOk (by kernel_rfl) ?_; simp (maxSteps := 1000000) (disch := first | omega | rfl | decide | (simp only [List.length_cons, List.length_nil, List.length_append, LV] <;> omega)) only [go_sem, Nat.reduceAdd, Int.reduceAdd, Int.reduceSub, Int.reduceMul, Bool.not_true, Bool.not_false, look_old k31, n1, e0, e6, beq_self_eq_true, Bool.not_true, Bool.not_false, yieldA_at 2 156, yieldA_at 2 254, yieldA_at 2 309, yieldA_at 3 76, yieldA_at 3 111, yieldA_at 3 139, yieldA_at 3 214, yieldA_at 5 170, yieldA_at 6 258, yieldA_at 6 313, yieldA_at 8 81, yieldA_at 10 262, yieldA_at 10 317, yieldA_at 16 181, yieldA_at 17 269]) | refine WA_seq ?_ | refine WA_block ?_ | (refine WA_skip ?_; try simp only [go_sem]) | (refine WA_ret ?_; try simp only [go_sem]) | refine WA_ct rfl ?_ | refine WA_cf rfl ?_))
          (refine Drop_slots (by first | assumption | exact Nat.le_refl _) ?_; focus ((try simp only [JL_same, JL_J, JL_nil, Int.reduceAdd, Nat.sub_sub, Int.natCast_add, Int.natCast_one, Int.natCast_zero, Int.cast_ofNat_Int, Nat.add_zero, Bool.false_eq_true, if_false, if_true]); (try exact JL_refl _)))
      · (repeat (first | ((first | (refine And.intro ?_ ?_; focus exact PLA) | refine WA_seq (WA_region ?_) | refine WA_region ?_ | refine WA_exit ?_); try simp (maxSteps := 1000000) (disch := first | omega | rfl | decide | (simp only [List.length_cons, List.length_nil, List.length_append, LV] <;> omega)) only [go_sem, Nat.reduceAdd, Int.reduceAdd, Int.reduceSub, Int.reduceMul, Bool.not_true, Bool.not_false, yieldA_at 2 156, yieldA_at 2 254, yieldA_at 2 309, yieldA_at 3 76, yieldA_at 3 111, yieldA_at 3 139, yieldA_at 3 214, yieldA_at 5 170, yieldA_at 6 258, yieldA_at 6 313, yieldA_at 8 81, yieldA_at 10 262, yieldA_at 10 317, yieldA_at 16 181, yieldA_at 17 269]) | refine WA_seq ?_ | refine WA_block ?_ | (refine WA_skip ?_; try simp only [go_sem]) | (refine WA_ret ?_; try simp only [go_sem]) | refine WA_ct rfl ?_ | refine WA_cf rfl ?_))
        (refine Drop_gc0 (by first | assumption | exact Nat.le_refl _ | first | assumption | omega | (simp only [List.length_append, List.length_cons, List.length_nil, List.length_replicate]; omega)) (by assumption) ?_; (focus (repeat (first | exact JR_nil | refine JR_J ?_ | (refine JR_plain ?_ ?_; (focus first | rfl | (refine plain_agg ?_; simp only [go_sem, List.all_append, List.all_cons, List.all_nil, Bool.and_self]; done))) | ((first | refine JR_pt ?_ ?_ ?_ | refine JR_sl ?_ ?_ ?_); (focus first | (rw [rhoF_new0]; rfl) | (rw [rhoF_new]; rfl) | (rw [rhoF_old]; first | assumption | omega)); (focus first | assumption | omega | (simp only [List.length_append, List.length_cons, List.length_nil, List.length_replicate]; omega))) | (refine JR_plain' ?_ ?_ ?_; (focus first | rfl | (refine plain_agg ?_; simp only [go_sem, List.all_append, List.all_cons, List.all_nil, Bool.and_self]; done)); (focus (first | rfl | (simp only [Int.natCast_add, Int.natCast_one, Int.natCast_zero, Int.cast_ofNat_Int, Nat.add_zero]; done) | (simp only [Int.natCast_add, Int.natCast_one, Int.natCast_zero, Int.cast_ofNat_Int, Nat.add_zero]; rfl)))) | (refine JR_sl' ?_ ?_ ?_ ?_; (focus first | (rw [rhoF_new0]; rfl) | (rw [rhoF_new]; rfl) | (rw [rhoF_old]; first | assumption | omega)); (focus first | assumption | omega | (simp only [List.length_append, List.length_cons, List.length_nil, List.length_replicate]; omega)); (focus first | rfl | omega | (first | rfl | (simp only [Int.natCast_add, Int.natCast_one, Int.natCast_zero, Int.cast_ofNat_Int, Nat.add_zero]; done) | (simp only [Int.natCast_add, Int.natCast_one, Int.natCast_zero, Int.cast_ofNat_Int, Nat.add_zero]; rfl)))) | (refine JR_old ?_ (Nat.le_refl _) ?_; (focus assumption)))) ))
    · (repeat (first | ((first | (refine And.intro ?_ ?_; focus exact PLA) | refine WA_seq (WA_region ?_) | refine WA_region ?_ | refine WA_exit ?_); try simp (maxSteps := 1000000) (disch := first | omega | rfl | decide | (simp only [List.length_cons, List.length_nil, List.length_append, LV] <;> omega)) only [go_sem, Nat.reduceAdd, Int.reduceAdd, Int.reduceSub, Int.reduceMul, Bool.not_true, Bool.not_false, yieldA_at 2 156, yieldA_at 2 254, yieldA_at 2 309, yieldA_at 3 76, yieldA_at 3 111, yieldA_at 3 139, yieldA_at 3 214, yieldA_at 5 170, yieldA_at 6 258, yieldA_at 6 313, yieldA_at 8 81, yieldA_at 10 262, yieldA_at 10 317, yieldA_at 16 181, yieldA_at 17 269]) | refine WA_seq ?_ | refine WA_block ?_ | (refine WA_skip ?_; try simp only [go_sem]) | (refine WA_ret ?_; try simp only [go_sem]) | refine WA_ct rfl ?_ | refine WA_cf rfl ?_))
      (refine Drop_slots (by first | assumption | exact Nat.le_refl _) ?_; focus ((try simp only [JL_same, JL_J, JL_nil, Int.reduceAdd, Nat.sub_sub, Int.natCast_add, Int.natCast_one, Int.natCast_zero, Int.cast_ofNat_Int, Nat.add_zero, Bool.false_eq_true, if_false, if_true]); (try exact JL_refl _)))
  (repeat (first | ((first | (refine And.intro ?_ ?_; focus exact PLA) | ((first | with_reducible apply callB_i | with_reducible apply callK_intro | with_reducible apply callQ_i); (focus (first | assumption | ((first | with_reducible apply d4 | with_reducible apply s1 | with_reducible apply s2 | with_reducible apply s3) <;> (first | assumption | rfl | (simp (disch := omega) only [go_sem]; first | done | rfl) | omega | decide | (simp; done))))); (try exact WP_au)) | refine WA_seq (WA_region (id := 27) ?_) | refine WA_region (id := 27) ?_ | refine WA_seq (WA_region (id := 28) ?_) | refine WA_region (id := 28) ?_ | refine WA_seq (WA_region (id := 29) ?_) | refine WA_region (id := 29) ?_ | refine WA_seq (WA_region (id := 30) ?_) | refine WA_region (id := 30) ?_ | refine WA_seq (WA_region (id := 32) ?_) | refine WA_region (id := 32) ?_ | refine WA_exit ?_); try simp (maxSteps := 1000000) (disch := first | omega | rfl | decide | (simp only [List.length_cons, List.length_nil, List.length_append, LV] <;> omega)) only [go_sem, Nat.reduceAdd, Int.reduceAdd, Int.reduceSub, Int.reduceMul, Bool.not_true, Bool.not_false, bne_self_eq_false, eqB_self, Ci_stC, Ci_splice_all, cipC_isn', c40, c41, c42, yieldA_at 2 156, yieldA_at 2 254, yieldA_at 2 309, yieldA_at 3 76, yieldA_at 3 111, yieldA_at 3 139, yieldA_at 3 214, yieldA_at 5 170, yieldA_at 6 258, yieldA_at 6 313, yieldA_at 8 81, yieldA_at 10 262, yieldA_at 10 317, yieldA_at 16 181, yieldA_at 17 269]) | refine WA_seq ?_ | refine WA_block ?_ | (refine WA_skip ?_; try simp only [go_sem]) | (refine WA_ret ?_; try simp only [go_sem]) | refine WA_ct rfl ?_ | refine WA_cf rfl ?_))
  refine WA_cond rfl (fun hb => ?_) (fun hb => ?_)
  · have hb' : cipB m1 bx1 mx1 pl1 r1 = false := by simpa using hb
    have hz : laT m1 bx1 mx1 pl1 dd r1 l1 = zeroF := by unfold laT; rw [hb']; rfl
    rw [hz] at g12
    (repeat (first | ((first | (refine And.intro ?_ ?_; focus exact PLA) | refine WA_seq (WA_region ?_) | refine WA_region ?_ | refine WA_exit ?_); try simp (maxSteps := 1000000) (disch := first | omega | rfl | decide | (simp only [List.length_cons, List.length_nil, List.length_append, LV] <;> omega)) only [go_sem, Nat.reduceAdd, Int.reduceAdd, Int.reduceSub, Int.reduceMul, Bool.not_true, Bool.not_false, g12, eqB_self, zeroF, yieldA_at 2 156, yieldA_at 2 254, yieldA_at 2 309, yieldA_at 3 76, yieldA_at 3 111, yieldA_at 3 139, yieldA_at 3 214, yieldA_at 5 170, yieldA_at 6 258, yieldA_at 6 313, yieldA_at 8 81, yieldA_at 10 262, yieldA_at 10 317, yieldA_at 16 181, yieldA_at 17 269]) | refine WA_seq ?_ | refine WA_block ?_ | (refine WA_skip ?_; try simp only [go_sem]) | (refine WA_ret ?_; try simp only [go_sem]) | refine WA_ct rfl ?_ | refine WA_cf rfl ?_))
    obtain ⟨A, hA⟩ := EG
    rw [hA]
    ((first | refine ret_nA ?_ | refine ret_sA ?_ | refine ret_fA ?_); simp (maxSteps := 1000000) (disch := first | omega | rfl | decide | (simp only [List.length_cons, List.length_nil, List.length_append, LV] <;> omega)) only [go_sem, Nat.reduceAdd, Int.reduceAdd, Int.reduceSub, Int.reduceMul, Bool.not_true, Bool.not_false]; try rfl)
  · have hb' : cipB m1 bx1 mx1 pl1 r1 = true := by simpa using hb
    have hz : cipC m1 bx1 mx1 pl1 r1 = 0 := by
      have := cipC_is' m1 bx1 mx1 pl1 r1
      rw [hb'] at this
      simpa using this
    obtain ⟨H6, s6, e6, d6⟩ := roll_aft (cv_app c EG) 9007 (by omega)
    obtain ⟨mo, H7, a7, d7⟩ := block9_aft s6
    have y10 : H7[H1.length]? = some ⟨Ci m1 bx1 mx1 pl1 r1, true⟩ := a7.keep _ _ (by omega) (by obtain ⟨A, e⟩ := e6; rw [e]; exact look_old g10 A)
    have y11 : H7[H1.length + 1]? = some ⟨Bs 16 dd, true⟩ := a7.keep _ _ (by omega) (by obtain ⟨A, e⟩ := e6; rw [e]; exact look_old g11 A)
    have y12 : H7[H1.length + 2]? = some ⟨Bs 16 (laT m1 bx1 mx1 pl1 dd r1 l1), true⟩ := a7.keep _ _ (by omega) (by obtain ⟨A, e⟩ := e6; rw [e]; exact look_old g12 A)
    have l7 := a7.len
    have l6 := s6.lt
    have b7 := a7.src.more [⟨Bs 16 mo, true⟩, ⟨Bs 16 (laT m1 bx1 mx1 pl1 mo r1 l1), true⟩, ⟨Bs 16 (laT m1 bx1 mx1 pl1 (xorF dd mo) r1 l1), true⟩, ⟨Bs 16 (beT m1 bx1 mx1 pl1 (laT m1 bx1 mx1 pl1 dd r1 l1) r1 l1), true⟩]
    have hx := laT_xor hb' dd mo l1
    have hbk := beT_laT hb' dd l1
    have eX : eqB 16 (laT m1 bx1 mx1 pl1 (xorF dd mo) r1 l1) (xorF (laT m1 bx1 mx1 pl1 dd r1 l1) (laT m1 bx1 mx1 pl1 mo r1 l1)) = true := by rw [hx]; exact eqB_self _ _
    (repeat (first | ((first | (refine And.intro ?_ ?_; focus exact PLA) | ((first | with_reducible apply callB_i | with_reducible apply callK_intro | with_reducible apply callQ_i); (focus (first | assumption | ((first | with_reducible apply d6 | with_reducible apply d7 | with_reducible apply laI_ac | with_reducible apply xor9_ac | with_reducible apply beI_ac) <;> (first | assumption | rfl | (simp (disch := omega) only [go_sem]; first | done | rfl) | omega | decide | (simp; done))))); (try exact WP_au)) | refine WA_seq (WA_region (id := 34) ?_) | refine WA_region (id := 34) ?_ | refine WA_seq (WA_region (id := 35) ?_) | refine WA_region (id := 35) ?_ | refine WA_seq (WA_region (id := 36) ?_) | refine WA_region (id := 36) ?_ | refine WA_seq (WA_region (id := 38) ?_) | refine WA_region (id := 38) ?_ | refine WA_exit ?_); try simp (maxSteps := 1000000) (disch := first | omega | rfl | decide | (simp only [List.length_cons, List.length_nil, List.length_append, LV] <;> omega)) only [go_sem, Nat.reduceAdd, Int.reduceAdd, Int.reduceSub, Int.reduceMul, Bool.not_true, Bool.not_false, y10, y11, y12, look_old y10, look_old y11, look_old y12, eX, hbk, hz, bne_self_eq_false, Ci_stC, Ci_splice_all, yieldA_at 2 156, yieldA_at 2 254, yieldA_at 2 309, yieldA_at 3 76, yieldA_at 3 111, yieldA_at 3 139, yieldA_at 3 214, yieldA_at 5 170, yieldA_at 6 258, yieldA_at 6 313, yieldA_at 8 81, yieldA_at 10 262, yieldA_at 10 317, yieldA_at 16 181, yieldA_at 17 269]) | (refine (WA_rb (id := 37) [10] (SubM.refl _) mixedOk ?_); simp only [List.size_toArray, List.length_cons, List.length_nil]; (repeat (first | ((first | (refine And.intro ?_ ?_; focus exact PLA) | ((first | with_reducible apply callB_i | with_reducible apply callK_intro | with_reducible apply callQ_i); (focus (first | assumption | ((first | with_reducible apply d6 | with_reducible apply d7 | with_reducible apply laI_ac | with_reducible apply xor9_ac | with_reducible apply beI_ac) <;> (first | assumption | rfl | (simp (disch := omega) only [go_sem]; first | done | rfl) | omega | decide | (simp; done))))); (try exact WP_au)) | refine RB_take false [4] 11 (by rfl) (by kernel_rfl) (by decide) (by decide +kernel) ?_ | refine RB_take true [0, 1, 2, 3, 5] 6 (by rfl) (by kernel_rfl) (by decide) (by decide +kernel) ?_ | refine RB_take false [6, 7, 8] 3 (by rfl) (by kernel_rfl) (by decide) (by decide +kernel) ?_ | refine RB_keep 9 _ (by rfl) (by decide +kernel) (by first | (simp (disch := first | omega | decide) only [go_sem, List.getElem?_nil]; done) | fail) ?_ | refine RB_exec 10 _ (by rfl) (by decide +kernel) (by decide +kernel) ?_ | refine RB_take false [11] 0 (by rfl) (by kernel_rfl) (by decide) (by decide +kernel) ?_ | refine RB_done (by decide +kernel) ?_); try simp (maxSteps := 1000000) (disch := first | omega | rfl | decide | (simp only [List.length_cons, List.length_nil, List.length_append, LV] <;> omega)) only [go_sem, Nat.reduceAdd, Int.reduceAdd, Int.reduceSub, Int.reduceMul, Bool.not_true, Bool.not_false, y10, y11, y12, look_old y10, look_old y11, look_old y12, eX, hbk, hz, bne_self_eq_false, Ci_stC, Ci_splice_all, yieldA_at 2 156, yieldA_at 2 254, yieldA_at 2 309, yieldA_at 3 76, yieldA_at 3 111, yieldA_at 3 139, yieldA_at 3 214, yieldA_at 5 170, yieldA_at 6 258, yieldA_at 6 313, yieldA_at 8 81, yieldA_at 10 262, yieldA_at 10 317, yieldA_at 16 181, yieldA_at 17 269])))) | (refine WA_seq (WA_draw (id := 39) mixedOk (by kernel_rfl) ?_); simp (maxSteps := 1000000) (disch := first | omega | rfl | decide | (simp only [List.length_cons, List.length_nil, List.length_append, LV] <;> omega)) only [go_sem, Nat.reduceAdd, Int.reduceAdd, Int.reduceSub, Int.reduceMul, Bool.not_true, Bool.not_false, y10, y11, y12, look_old y10, look_old y11, look_old y12, eX, hbk, hz, bne_self_eq_false, Ci_stC, Ci_splice_all, yieldA_at 2 156, yieldA_at 2 254, yieldA_at 2 309, yieldA_at 3 76, yieldA_at 3 111, yieldA_at 3 139, yieldA_at 3 214, yieldA_at 5 170, yieldA_at 6 258, yieldA_at 6 313, yieldA_at 8 81, yieldA_at 10 262, yieldA_at 10 317, yieldA_at 16 181, yieldA_at 17 269]) | (refine WA_draw (id := 39) mixedOk (by kernel_rfl) ?_; simp (maxSteps := 1000000) (disch := first | omega | rfl | decide | (simp only [List.length_cons, List.length_nil, List.length_append, LV] <;> omega)) only [go_sem, Nat.reduceAdd, Int.reduceAdd, Int.reduceSub, Int.reduceMul, Bool.not_true, Bool.not_false, y10, y11, y12, look_old y10, look_old y11, look_old y12, eX, hbk, hz, bne_self_eq_false, Ci_stC, Ci_splice_all, yieldA_at 2 156, yieldA_at 2 254, yieldA_at 2 309, yieldA_at 3 76, yieldA_at 3 111, yieldA_at 3 139, yieldA_at 3 214, yieldA_at 5 170, yieldA_at 6 258, yieldA_at 6 313, yieldA_at 8 81, yieldA_at 10 262, yieldA_at 10 317, yieldA_at 16 181, yieldA_at 17 269]) | refine WA_seq ?_ | refine WA_block ?_ | (refine WA_skip ?_; try simp only [go_sem]) | (refine WA_ret ?_; try simp only [go_sem]) | refine WA_ct rfl ?_ | refine WA_cf rfl ?_))
    obtain ⟨i, H8, hi, a8, d8⟩ := below_aft b7.src (N := 16) (by omega) (by omega)
    have b8 := a8.src.more [⟨Bs 16 zeroF, true⟩]
    obtain ⟨z, H9, hzz, a9, d9⟩ := below_aft b8.src (N := 255) (by omega) (by omega)
    have wz : IntKind.i64.wrap ((1 : Int) + (z : Int)) = ((1 + z : Nat) : Int) := by rw [show (1 : Int) + (z : Int) = ((1 + z : Nat) : Int) by omega]; exact wrap_N (by omega)
    have A9 := ((b7.trans a8).trans b8).trans a9
    have y8 : (H8 ++ ([⟨Bs 16 zeroF, true⟩] : List Blk))[H8.length]? = some ⟨Bs 16 zeroF, true⟩ := by simp
    have l8 := a8.len
    simp only [List.length_append, List.length_cons, List.length_nil] at l8
    have y9 := a9.keep _ _ (by omega) y8
    have l9 := a9.len
    simp only [List.length_append, List.length_cons, List.length_nil] at l9
    (repeat (first | ((first | (refine And.intro ?_ ?_; focus exact PLA) | ((first | with_reducible apply callB_i | with_reducible apply callK_intro | with_reducible apply callQ_i); (focus (first | assumption | ((first | with_reducible apply d8 | with_reducible apply d9) <;> (first | assumption | rfl | (simp (disch := omega) only [go_sem]; first | done | rfl) | omega | decide | (simp; done))))); (try exact WP_au)) | refine WA_seq (WA_region (id := 41) ?_) | refine WA_region (id := 41) ?_ | refine WA_seq (WA_region (id := 42) ?_) | refine WA_region (id := 42) ?_ | refine WA_seq (WA_region (id := 43) ?_) | refine WA_region (id := 43) ?_ | refine WA_exit ?_); try simp (maxSteps := 1000000) (disch := first | omega | rfl | decide | (simp only [List.length_cons, List.length_nil, List.length_append, LV] <;> omega)) only [go_sem, Nat.reduceAdd, Int.reduceAdd, Int.reduceSub, Int.reduceMul, Bool.not_true, Bool.not_false, y9, wz, yieldA_at 2 156, yieldA_at 2 254, yieldA_at 2 309, yieldA_at 3 76, yieldA_at 3 111, yieldA_at 3 139, yieldA_at 3 214, yieldA_at 5 170, yieldA_at 6 258, yieldA_at 6 313, yieldA_at 8 81, yieldA_at 10 262, yieldA_at 10 317, yieldA_at 16 181, yieldA_at 17 269]) | refine WA_seq ?_ | refine WA_block ?_ | (refine WA_skip ?_; try simp only [go_sem]) | (refine WA_ret ?_; try simp only [go_sem]) | refine WA_ct rfl ?_ | refine WA_cf rfl ?_))
    obtain ⟨sg, hsg⟩ : ∃ sg, sg = upd zeroF i (UInt8.ofNat (1 + z)) := ⟨_, rfl⟩
    rw [← hsg]
    obtain ⟨M9, hM9⟩ : ∃ M, M = H9.set H8.length ⟨Bs 16 sg, true⟩ := ⟨_, rfl⟩
    rw [← hM9]
    have A10 := A9.set a7.src (i := H8.length) (by omega) ⟨Bs 16 sg, true⟩
    rw [← hM9] at A10
    have lM9 : M9.length = H9.length := by rw [hM9]; simp
    have z10 := A10.keep _ _ (by omega) y10
    have z13 : M9[H7.length]? = some ⟨Bs 16 mo, true⟩ := by
      have h1 : (H7 ++ ([⟨Bs 16 mo, true⟩, ⟨Bs 16 (laT m1 bx1 mx1 pl1 mo r1 l1), true⟩, ⟨Bs 16 (laT m1 bx1 mx1 pl1 (xorF dd mo) r1 l1), true⟩, ⟨Bs 16 (beT m1 bx1 mx1 pl1 (laT m1 bx1 mx1 pl1 dd r1 l1) r1 l1), true⟩] : List Blk))[H7.length]? = some ⟨Bs 16 mo, true⟩ := by simp
      rw [hM9]
      exact set_at (((a8.trans b8).trans a9).keep _ _ (by omega) h1) (by omega)
    have z14 : M9[H8.length]? = some ⟨Bs 16 sg, true⟩ := by rw [hM9]; exact look_set (blt y9)
    (repeat (first | ((first | (refine And.intro ?_ ?_; focus exact PLA) | ((first | with_reducible apply callB_i | with_reducible apply callK_intro | with_reducible apply callQ_i); (focus (first | assumption | (with_reducible apply bsI_ac <;> (first | assumption | rfl | (simp (disch := omega) only [go_sem]; first | done | rfl) | omega | decide | (simp; done))))); (try exact WP_au)) | refine WA_seq (WA_region (id := 44) ?_) | refine WA_region (id := 44) ?_ | refine WA_exit ?_); try simp (maxSteps := 1000000) (disch := first | omega | rfl | decide | (simp only [List.length_cons, List.length_nil, List.length_append, LV] <;> omega)) only [go_sem, Nat.reduceAdd, Int.reduceAdd, Int.reduceSub, Int.reduceMul, Bool.not_true, Bool.not_false, z10, z13, z14, Ci_stC, Ci_splice_all, yieldA_at 2 156, yieldA_at 2 254, yieldA_at 2 309, yieldA_at 3 76, yieldA_at 3 111, yieldA_at 3 139, yieldA_at 3 214, yieldA_at 5 170, yieldA_at 6 258, yieldA_at 6 313, yieldA_at 8 81, yieldA_at 10 262, yieldA_at 10 317, yieldA_at 16 181, yieldA_at 17 269]) | refine WA_seq ?_ | refine WA_block ?_ | (refine WA_skip ?_; try simp only [go_sem]) | (refine WA_ret ?_; try simp only [go_sem]) | refine WA_ct rfl ?_ | refine WA_cf rfl ?_))
    obtain ⟨M10, hM10⟩ : ∃ M, M = M9 ++ [⟨Bs 16 (bsT m1 bx1 mx1 pl1 sg r1 true), true⟩] := ⟨_, rfl⟩
    rw [← hM10]
    obtain ⟨f, hf, cf⟩ := stI_best hb' sg true M10
    have u10 : M10[H1.length]? = some ⟨Ci m1 bx1 mx1 pl1 r1, true⟩ := by rw [hM10]; exact look_old z10 _
    have u13 : M10[H7.length]? = some ⟨Bs 16 mo, true⟩ := by rw [hM10]; exact look_old z13 _
    have u14 : M10[H8.length]? = some ⟨Bs 16 sg, true⟩ := by rw [hM10]; exact look_old z14 _
    have u15 : M10[M9.length]? = some ⟨Bs 16 (bsT m1 bx1 mx1 pl1 sg r1 true), true⟩ := by rw [hM10]; simp
    (repeat (first | ((first | (refine And.intro ?_ ?_; focus exact PLA) | ((first | with_reducible apply callB_i | with_reducible apply callK_intro | with_reducible apply callQ_i); (focus (first | assumption | (with_reducible apply cf <;> (first | assumption | rfl | (simp (disch := omega) only [go_sem]; first | done | rfl) | omega | decide | (simp; done))))); (try exact WP_au)) | refine WA_seq (WA_region (id := 45) ?_) | refine WA_region (id := 45) ?_ | refine WA_exit ?_); try simp (maxSteps := 1000000) (disch := first | omega | rfl | decide | (simp only [List.length_cons, List.length_nil, List.length_append, LV] <;> omega)) only [go_sem, Nat.reduceAdd, Int.reduceAdd, Int.reduceSub, Int.reduceMul, Bool.not_true, Bool.not_false, u10, u14, u15, Ci_stC, Ci_splice_all, yieldA_at 2 156, yieldA_at 2 254, yieldA_at 2 309, yieldA_at 3 76, yieldA_at 3 111, yieldA_at 3 139, yieldA_at 3 214, yieldA_at 5 170, yieldA_at 6 258, yieldA_at 6 313, yieldA_at 8 81, yieldA_at 10 262, yieldA_at 10 317, yieldA_at 16 181, yieldA_at 17 269]) | refine WA_seq ?_ | refine WA_block ?_ | (refine WA_skip ?_; try simp only [go_sem]) | (refine WA_ret ?_; try simp only [go_sem]) | refine WA_ct rfl ?_ | refine WA_cf rfl ?_))
    obtain ⟨M11, hM11⟩ : ∃ M, M = M10 ++ [(⟨Is 16 fun i => ((f i : Nat) : Int), true⟩ : Blk)] := ⟨_, rfl⟩
    rw [← hM11]
    have w10 : M11[H1.length]? = some ⟨Ci m1 bx1 mx1 pl1 r1, true⟩ := by rw [hM11]; exact look_old u10 _
    have w13 : M11[H7.length]? = some ⟨Bs 16 mo, true⟩ := by rw [hM11]; exact look_old u13 _
    have w14 : M11[H8.length]? = some ⟨Bs 16 sg, true⟩ := by rw [hM11]; exact look_old u14 _
    have w15 : M11[M9.length]? = some ⟨Bs 16 (bsT m1 bx1 mx1 pl1 sg r1 true), true⟩ := by rw [hM11]; exact look_old u15 _
    have w16 : M11[M10.length]? = some ⟨Is 16 fun i => ((f i : Nat) : Int), true⟩ := by rw [hM11]; simp
    have A11 : Aft H7 M11 G2.length cv := by
      have a := A10.trans (A10.src.more [⟨Bs 16 (bsT m1 bx1 mx1 pl1 sg r1 true), true⟩])
      rw [← hM10] at a
      have a' := a.trans (a.src.more [(⟨Is 16 fun i => ((f i : Nat) : Int), true⟩ : Blk)])
      rwa [← hM11] at a'
    obtain ⟨ky, k, k', M12, hb12, hr12, g12', A12, c12⟩ := block9_N A11.src
    have v10 := set_at (x := dead) w10 (show G2.length ≠ H1.length by omega)
    have v13 := set_at (x := dead) w13 (show G2.length ≠ H7.length by omega)
    have v14 := set_at (x := dead) w14 (show G2.length ≠ H8.length by omega)
    have v15 := set_at (x := dead) w15 (show G2.length ≠ M9.length by omega)
    have p0 : (M11.set G2.length dead)[G2.length]? = some dead := look_set (blt hb12)
    have lM10 : M10.length = M9.length + 1 := by rw [hM10]; simp
    have w16' : M12[M10.length]? = some ⟨Is 16 fun i => ((f i : Nat) : Int), true⟩ := A12.keep _ _ (by omega) w16
    have hpr := pairI_one hb' ky mo hi (UInt8.ofNat (1 + z)) M12
    rw [← hsg] at hpr
    have hfi := (hf i hi).1
    rw [← hfi] at hpr
    first | refine WA_seq (WA_rb (id := 46) [7] (SubM.set (SubM.refl _) G2.length) mixedOk ?_) | refine WA_rb (id := 46) [7] (SubM.set (SubM.refl _) G2.length) mixedOk ?_
    simp only [List.size_toArray, List.length_cons, List.length_nil]
    refine RB_take false [1, 4] 11 (by rfl) (by kernel_rfl) (by decide) (by decide +kernel) ?_
    try simp (maxSteps := 1000000) (disch := first | omega | rfl | decide | (simp only [List.length_cons, List.length_nil, List.length_append, Bs_length] <;> omega)) only [go_sem, Nat.reduceAdd, Ci_stC, Ci_splice_all, w10, w13, w14, w15, v10, v13, v14, v15, p0]
    refine RB_take true [0, 3, 5, 6] 7 (by rfl) (by kernel_rfl) (by decide) (by decide +kernel) ?_
    try simp (maxSteps := 1000000) (disch := first | omega | rfl | decide | (simp only [List.length_cons, List.length_nil, List.length_append, Bs_length] <;> omega)) only [go_sem, Nat.reduceAdd, Ci_stC, Ci_splice_all, w10, w13, w14, w15, v10, v13, v14, v15, p0]
    refine RB_keepNL G2.length 2 6 (by rfl) (by decide +kernel) (by rw [p0]; exact rfl) ?_
    try simp (maxSteps := 1000000) (disch := first | omega | rfl | decide | (simp only [List.length_cons, List.length_nil, List.length_append, Bs_length] <;> omega)) only [go_sem, Nat.reduceAdd, Ci_stC, Ci_splice_all, w10, w13, w14, w15, v10, v13, v14, v15, p0]
    refine callNL_i hb12 hr12 c12 rfl ?_
    rw [← g12']
    try simp (maxSteps := 1000000) (disch := first | omega | rfl | decide | (simp only [List.length_cons, List.length_nil, List.length_append, Bs_length] <;> omega)) only [go_sem, Nat.reduceAdd, Ci_stC, Ci_splice_all, w10, w13, w14, w15, v10, v13, v14, v15, p0]
    refine RB_exec 7 _ (by rfl) (by decide +kernel) (by decide +kernel) ?_
    try simp (maxSteps := 1000000) (disch := first | omega | rfl | decide | (simp only [List.length_cons, List.length_nil, List.length_append, Bs_length] <;> omega)) only [go_sem, Nat.reduceAdd, Ci_stC, Ci_splice_all, w10, w13, w14, w15, v10, v13, v14, v15, p0]
    refine ⟨_, _, hpr, ?_⟩
    try simp (maxSteps := 1000000) (disch := first | omega | rfl | decide | (simp only [List.length_cons, List.length_nil, List.length_append, Bs_length] <;> omega)) only [go_sem, Nat.reduceAdd, Ci_stC, Ci_splice_all, w10, w13, w14, w15, v10, v13, v14, v15, p0]
    refine RB_take false [8, 9, 10, 11, 12] 0 (by rfl) (by kernel_rfl) (by decide) (by decide +kernel) ?_
    try simp (maxSteps := 1000000) (disch := first | omega | rfl | decide | (simp only [List.length_cons, List.length_nil, List.length_append, Bs_length] <;> omega)) only [go_sem, Nat.reduceAdd, Ci_stC, Ci_splice_all, w10, w13, w14, w15, v10, v13, v14, v15, p0]
    refine RB_done (by decide +kernel) ?_
    try simp (maxSteps := 1000000) (disch := first | omega | rfl | decide | (simp only [List.length_cons, List.length_nil, List.length_append, Bs_length] <;> omega)) only [go_sem, Nat.reduceAdd, Ci_stC, Ci_splice_all, w10, w13, w14, w15, v10, v13, v14, v15, p0]
    (repeat (first | ((first | (refine And.intro ?_ ?_; focus exact PLA) | refine WA_seq (WA_region ?_) | refine WA_region ?_ | refine WA_exit ?_); try simp (maxSteps := 1000000) (disch := first | omega | rfl | decide | (simp only [List.length_cons, List.length_nil, List.length_append, LV] <;> omega)) only [go_sem, Nat.reduceAdd, Int.reduceAdd, Int.reduceSub, Int.reduceMul, Bool.not_true, Bool.not_false, w16', hz, beq_self_eq_true, yieldA_at 2 156, yieldA_at 2 254, yieldA_at 2 309, yieldA_at 3 76, yieldA_at 3 111, yieldA_at 3 139, yieldA_at 3 214, yieldA_at 5 170, yieldA_at 6 258, yieldA_at 6 313, yieldA_at 8 81, yieldA_at 10 262, yieldA_at 10 317, yieldA_at 16 181, yieldA_at 17 269]) | refine WA_seq ?_ | refine WA_block ?_ | (refine WA_skip ?_; try simp only [go_sem]) | (refine WA_ret ?_; try simp only [go_sem]) | refine WA_ct rfl ?_ | refine WA_cf rfl ?_))
    obtain ⟨A, hA⟩ := (A11.trans A12).app h (by omega) (a7.app h (by omega) (app_tr EG e6))
    rw [hA]
    ((first | refine ret_nA ?_ | refine ret_sA ?_ | refine ret_fA ?_); simp (maxSteps := 1000000) (disch := first | omega | rfl | decide | (simp only [List.length_cons, List.length_nil, List.length_append, LV] <;> omega)) only [go_sem, Nat.reduceAdd, Int.reduceAdd, Int.reduceSub, Int.reduceMul, Bool.not_true, Bool.not_false]; try rfl)

end Go.Proofs.Ytcfpninklbnifaa
namespace Go.Proofs.Ytcfpninklbnifaa
set_option linter.unusedSimpArgs false
set_option linter.unusedVariables false
set_option maxRecDepth 20000
set_option maxHeartbeats 1000000
open Go.Abs

theorem fnLayers_big {b n : Nat} (hn : 4096 < n) (hn2 : n ≤ 9223372036854775807) (h : List Blk) : AC Try.prog 4 [sl b 0 n 1] h (.bool true) h := by
  have hbg := big_long (b := b) hn hn2
  (refine AC_begin (fun _ _ => Try.call4 _ _) Try.func4 rfl Try.ntmps4 Try.results4 (fun hwf => ?_); simp only [List.length_cons, List.length_nil, Nat.reduceAdd, Nat.reduceSub, List.replicate, List.cons_append, List.nil_append])
  (repeat (first | ((first | (refine And.intro ?_ ?_; focus exact PLA) | ((first | with_reducible apply callB_i | with_reducible apply callK_intro | with_reducible apply callQ_i); (focus (first | assumption | (with_reducible apply hbg <;> (first | assumption | rfl | (simp (disch := omega) only [go_sem]; first | done | rfl) | omega | decide | (simp; done))))); (try exact WP_au)) | refine WA_seq (WA_region ?_) | refine WA_region ?_ | refine WA_exit ?_); try simp (maxSteps := 1000000) (disch := first | omega | rfl | decide | (simp only [List.length_cons, List.length_nil, List.length_append, LV] <;> omega)) only [go_sem, Nat.reduceAdd, Int.reduceAdd, Int.reduceSub, Int.reduceMul, Bool.not_true, Bool.not_false, yieldA_at 2 156, yieldA_at 2 254, yieldA_at 2 309, yieldA_at 3 76, yieldA_at 3 111, yieldA_at 3 139, yieldA_at 3 214, yieldA_at 5 170, yieldA_at 6 258, yieldA_at 6 313, yieldA_at 8 81, yieldA_at 10 262, yieldA_at 10 317, yieldA_at 16 181, yieldA_at 17 269]) | refine WA_seq ?_ | refine WA_block ?_ | (refine WA_skip ?_; try simp only [go_sem]) | (refine WA_ret ?_; try simp only [go_sem]) | refine WA_ct rfl ?_ | refine WA_cf rfl ?_))
  ((first | refine ret_nA ?_ | refine ret_sA ?_ | refine ret_fA ?_); simp (maxSteps := 1000000) (disch := first | omega | rfl | decide | (simp only [List.length_cons, List.length_nil, List.length_append, LV] <;> omega)) only [go_sem, Nat.reduceAdd, Int.reduceAdd, Int.reduceSub, Int.reduceMul, Bool.not_true, Bool.not_false]; try rfl)

theorem fnLayers_args (us : List Value) (bl : List Blk) (h : ArgsU Try.prog 0 [22] us bl) : AC Try.prog 4 us bl (.bool true) bl := by
  rcases h.list (m := 1) (e := 5) (by kernel_rfl) (by kernel_rfl) with ⟨us1, rfl, h1⟩ | ⟨n1, f1, us1, bl1, rfl, rfl, hn1, h1⟩
  · obtain ⟨rfl, rfl⟩ := h1.done
    exact fnLayers_ok .nil
  · obtain ⟨rfl, rfl⟩ := h1.done
    rw [Nat.mul_one]
    rcases Nat.lt_or_ge 4096 n1 with hl | hl
    · exact fnLayers_big hl (by have : maxLen = 9223372036854775807 := rfl; omega) _
    · exact fnLayers_ok (Cv.sl (h := [⟨Bs n1 f1, false⟩]) (bc := 0) (f := f1) (rc := false) rfl hl)

set_option maxRecDepth 100000 in
set_option maxHeartbeats 1000000 in
theorem fnLayers_lifted (os : Os) (started : os.Started) (H : Type) (enc : TypeId × Value → H) :
    ReturnsInHanded {} Try.checked os 4 .any (Rows.fnLayersSpec.pre6 enc Try.prog Try.f4 Rows.fnLayersRow.domain false) (Rows.fnLayersSpec.post enc Try.prog Try.f4 false true false false) :=
  frame_law (C := Try.checked) (by kernel_rfl) started (by kernel_rfl) Try.func4 (by kernel_rfl)
    (ChangeSpec.witness6 (enc := enc) (C := Try.checked) false ⟨#[], #[.slice none 0 0], []⟩ 8 (by kernel_rfl) (by kernel_rfl) (by kernel_rfl) (by kernel_rfl))
    rfl (fun ds h => by rw [Try.params4] at h; match ds, h with | [_], _ => rfl) (by rfl) Try.underlying4 (by rw [Try.params4]; kernel_rfl)
    (by rw [Try.params4]; exact fnLayers_args)

/-- ████ THE STATEMENT ████ -/
theorem fnLayers : Rows.FnLayersSaid :=
  OpenClaim.holds_of_wide 4 Try.f4 rfl rfl rfl rfl rfl rfl rfl ⟨rfl, rfl, rfl, rfl, rfl⟩ rfl rfl rfl rfl rfl (by kernel_rfl) Try.func4 (by kernel_rfl)
    (of_decide_eq_true (by kernel_rfl)) (by unfold Func.isWrapper; first | (rw [if_pos (by decide +kernel)]; kernel_rfl) | (rw [if_neg (by decide +kernel)]; exact ⟨rfl, rfl⟩))
    (fun os started H enc _ => fnLayers_lifted os started H enc)
#print axioms fnLayers
end Go.Proofs.Ytcfpninklbnifaa
