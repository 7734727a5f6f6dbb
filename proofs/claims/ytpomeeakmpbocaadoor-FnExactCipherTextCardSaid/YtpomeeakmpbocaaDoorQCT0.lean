/- A part of the proof of CipherText. -/
import Derived.Lib.SplitLaws
import Derived.Lib.Join
import Derived.Lib.Replace
import Derived.Lib.ItoaNum
import Derived.Lib.AppendIntMem
import Derived.Test.YtpomeeakmpbocaaDoorQCTH
/- Texts of bytes, powers of boxes. Plain. -/
namespace Go.Proofs.YtpomeeakmpbocaaDoor
set_option linter.unusedSimpArgs false
set_option linter.unusedVariables false
set_option maxRecDepth 20000
set_option maxHeartbeats 1000000
open Go.Abs

def hexA : Array UInt8 := #[48, 49, 50, 51, 52, 53, 54, 55, 56, 57, 97, 98, 99, 100, 101, 102]
def hexC (n : Nat) : UInt8 := hexA.getD n 0
/-- The text of the first n bytes. -/
def hx (f : Nat → UInt8) : Nat → List UInt8
  | 0 => []
  | k + 1 => hx f k ++ [hexC ((f k).toNat / 16), hexC ((f k).toNat % 16)]
theorem hx_len (f : Nat → UInt8) : ∀ n, (hx f n).length = 2 * n
  | 0 => rfl
  | n + 1 => by rw [hx, List.length_append, hx_len f n]; show 2 * n + 2 = _; omega
def hxT (f : Nat → UInt8) (n : Nat) : ByteArray := ⟨(hx f n).toArray⟩
theorem hxT_size (f : Nat → UInt8) (n : Nat) : (hxT f n).size = 2 * n := hx_len f n
end Go.Proofs.YtpomeeakmpbocaaDoor
/- Texts cut at a sign. Plain. -/
namespace Go.Proofs.YtpomeeakmpbocaaDoor
set_option linter.unusedSimpArgs false
set_option linter.unusedVariables false
set_option maxRecDepth 20000
set_option maxHeartbeats 1000000
open Go.Abs

theorem index_other {b c : UInt8} (h : b ≠ c) (l : List UInt8) : Lib.index (b :: l) [c] = if Lib.index l [c] == -1 then -1 else Lib.index l [c] + 1 := by
  have hp : ([c] : List UInt8).isPrefixOf (b :: l) = false := by simp [List.isPrefixOf, Ne.symm h]
  rw [Lib.index, hp]; simp
theorem index_same (c : UInt8) (l : List UInt8) : Lib.index (c :: l) [c] = 0 := by rw [Lib.index]; simp [List.isPrefixOf]
theorem sz_list (s : ByteArray) : s.size = s.data.toList.length := by rw [Array.length_toList]; rfl
theorem ba_inj {x y : ByteArray} (h : x.data.toList = y.data.toList) : x = y := by
  cases x; cases y; congr 1; exact Array.ext' h
end Go.Proofs.YtpomeeakmpbocaaDoor
/- Texts of bytes: signs and texts. -/
namespace Go.Proofs.YtpomeeakmpbocaaDoor
set_option linter.unusedSimpArgs false
set_option linter.unusedVariables false
set_option maxRecDepth 20000
set_option maxHeartbeats 1000000
open Go.Abs

theorem tab16 {P : Program} {T : TypeId} (hu : P.underlying T = some .string) (x : UInt8) (hx : x.toNat < 16) : indexA P T (.string ⟨#[48, 49, 50, 51, 52, 53, 54, 55, 56, 57, 97, 98, 99, 100, 101, 102]⟩) (B x) = some (B (hexC x.toNat)) := by
  have hs : (⟨#[48, 49, 50, 51, 52, 53, 54, 55, 56, 57, 97, 98, 99, 100, 101, 102]⟩ : ByteArray).size = 16 := rfl
  rw [ix_str_B hu, hs, aidx_nat hx, chrC_some (by rw [hs]; exact hx)]; rfl
theorem nib_hi : ∀ n, n < 256 → (UInt8.ofNat (n >>> 4)).toNat = n / 16 := by decide +kernel
theorem nib_lo : ∀ n, n < 256 → (UInt8.ofNat n &&& 15).toNat = n % 16 := by decide +kernel
theorem hi16 (x : UInt8) : (x / 16).toNat = x.toNat / 16 := UInt8.toNat_div x 16
theorem lo16 (x : UInt8) : (x % 16).toNat = x.toNat % 16 := UInt8.toNat_mod x 16
theorem shr16 (x : UInt8) : (UInt8.ofNat (x.toNat >>> 4)).toNat = x.toNat / 16 := nib_hi x.toNat (u8_lt x)
theorem and15 (x : UInt8) : (x &&& 15).toNat = x.toNat % 16 := by
  have := nib_lo x.toNat (u8_lt x)
  rwa [UInt8.ofNat_toNat] at this
theorem sub2 (v w : Value) : sub [v, w] 0 2 = [v, w] := rfl
theorem Bl_hx (f : Nat → UInt8) (k : Nat) : Bl (hx f k) ++ [B (hexC ((f k).toNat / 16)), B (hexC ((f k).toNat % 16))] = Bl (hx f (k + 1)) := by
  unfold Bl; rw [hx, List.map_append]; rfl
theorem hexI_ac {h : List Blk} {b n : Nat} {f : Nat → UInt8} {r : Bool} (hb : h[b]? = some ⟨Bs n f, r⟩) (hn : n ≤ 1000000) : AC Tryd.prog 18 [sl b 0 n 1] h (.string (hxT f n)) h := by
  have hbl := blt hb
  (refine AC_begin (fun _ _ => Tryd.call18 _ _) Tryd.func18 rfl Tryd.ntmps18 Tryd.results18 (fun hwf => ?_); simp only [List.length_cons, List.length_nil, Nat.reduceAdd, Nat.reduceSub, List.replicate, List.cons_append, List.nil_append])
  (repeat (first | ((first | (refine And.intro ?_ ?_; focus exact PLA) | refine WA_seq (WA_region ?_) | refine WA_region ?_ | refine WA_exit ?_); try simp (maxSteps := 1000000) (disch := first | omega | rfl | decide | (simp only [List.length_cons, List.length_nil, List.length_append, Bs_length, Is_length, Vs_length, Bl_length, Il_length] <;> omega)) only [go_sem, Nat.reduceAdd, Int.reduceAdd, Int.reduceSub, Int.reduceMul, Bool.not_true, Bool.not_false]) | refine WA_seq ?_ | refine WA_block ?_ | (refine WA_skip ?_; try simp only [go_sem]) | (refine WA_ret ?_; try simp only [go_sem]) | refine WA_ct rfl ?_ | refine WA_cf rfl ?_))
  refine WA_forP (fun k => [(3, sl h.length 0 (2 * k) 1), (5, J), (6, J), (9, .int .i64 k), (10, J), (11, J), (12, J), (13, J), (14, J), (15, J), (16, J), (17, J), (18, J), (19, J), (20, J), (21, J), (22, J)]) (fun k => [(0, ⟨Bl (hx f k), true⟩)]) (n) ?_ ?_ ?_ <;> (try simp only [patT_cons, patT_nil, patL_cons, patL_nil, list_set_zero, list_set_succ, blk_set_zero, blk_set_succ])
  · (refine Drop_slots (by first | exact Nat.le_refl _ | simp) ?_; focus ((try simp only [JL_same, JL_J, JL_nil, Int.reduceAdd, Nat.sub_sub, Int.natCast_add, Int.natCast_one, Int.natCast_zero, Int.cast_ofNat_Int, Nat.add_zero, Bool.false_eq_true, if_false, if_true, hx]); (try exact JL_refl _)))
  · intro k hk
    have hx1 := tab16 (P := Tryd.prog) (T := 9) (by kernel_rfl) (UInt8.ofNat ((f k).toNat >>> 4)) (by rw [shr16]; have := u8_lt (f k); omega)
    have hx2 := tab16 (P := Tryd.prog) (T := 9) (by kernel_rfl) (f k &&& 15) (by rw [and15]; omega)
    have hsh : abin Tryd.prog .shr 5 (B (f k)) (.int .u64 4) = some (B (UInt8.ofNat ((f k).toNat >>> 4))) := abin_shr_B (f k) .u64 4
    rw [shr16] at hx1
    rw [and15] at hx2
    have hl := hx_len f k
    (repeat (first | ((first | (refine And.intro ?_ ?_; focus exact PLA) | refine WA_seq (WA_region ?_) | refine WA_region ?_ | refine WA_exit ?_); try simp (maxSteps := 1000000) (disch := first | omega | rfl | decide | (simp only [List.length_cons, List.length_nil, List.length_append, Bs_length, Is_length, Vs_length, Bl_length, Il_length] <;> omega)) only [go_sem, Nat.reduceAdd, Int.reduceAdd, Int.reduceSub, Int.reduceMul, Bool.not_true, Bool.not_false, look_old hb, hsh, hx1, hx2, hl, sub2, Bl_hx]) | (refine (WA_rb (id := 5) [7, 8] (SubM.refl _) mixedOk ?_); simp only [List.size_toArray, List.length_cons, List.length_nil]; (repeat (first | ((first | (refine And.intro ?_ ?_; focus exact PLA) | refine RB_take false [0, 1, 2, 3, 4, 5, 6] 3 (by rfl) (by kernel_rfl) (by decide) (by decide +kernel) ?_ | refine RB_exec 7 _ (by rfl) (by decide +kernel) (by decide +kernel) ?_ | refine RB_exec 8 _ (by rfl) (by decide +kernel) (by decide +kernel) ?_ | refine RB_take false [9] 0 (by rfl) (by kernel_rfl) (by decide) (by decide +kernel) ?_ | refine RB_done (by decide +kernel) ?_); try simp (maxSteps := 1000000) (disch := first | omega | rfl | decide | (simp only [List.length_cons, List.length_nil, List.length_append, Bs_length, Is_length, Vs_length, Bl_length, Il_length] <;> omega)) only [go_sem, Nat.reduceAdd, Int.reduceAdd, Int.reduceSub, Int.reduceMul, Bool.not_true, Bool.not_false, look_old hb, hsh, hx1, hx2, hl, sub2, Bl_hx])))) | refine WA_seq ?_ | refine WA_block ?_ | (refine WA_skip ?_; try simp only [go_sem]) | (refine WA_ret ?_; try simp only [go_sem]) | refine WA_ct rfl ?_ | refine WA_cf rfl ?_))
    (refine Drop_gc [2] (by first | exact Nat.le_refl _ | first | assumption | omega | (simp only [List.length_append, List.length_cons, List.length_nil, List.length_replicate]; omega)) (by assumption) (by decide) ?_ ?_; (focus (repeat (first | exact trivial | (refine And.intro ⟨_, rfl, ?_⟩ ?_; (focus first | (refine Fit_plain ?_; simp only [go_sem, List.all_append, List.all_cons, List.all_nil, Bool.and_self]; done) | exact Fit_nil rfl | exact Fit_dead | (refine Fit_eq ?_ ?_; (focus simp only [go_sem, List.all_append, List.all_cons, List.all_nil, Bool.and_self]); (focus (first | rfl | (simp only [Int.natCast_add, Int.natCast_one, Int.natCast_zero, Int.cast_ofNat_Int, Nat.add_zero]; done) | (simp only [Int.natCast_add, Int.natCast_one, Int.natCast_zero, Int.cast_ofNat_Int, Nat.add_zero]; rfl))))))))); (focus (repeat (first | exact JR_nil | refine JR_J ?_ | (refine JR_plain ?_ ?_; (focus first | rfl | (refine plain_agg ?_; simp only [go_sem, List.all_append, List.all_cons, List.all_nil, Bool.and_self]; done))) | ((first | refine JR_pt ?_ ?_ ?_ | refine JR_sl ?_ ?_ ?_); (focus first | (rw [rhoF_new0]; rfl) | (rw [rhoF_new]; rfl) | (rw [rhoF_old]; first | assumption | omega)); (focus first | assumption | omega | (simp only [List.length_append, List.length_cons, List.length_nil, List.length_replicate]; omega))) | (refine JR_plain' ?_ ?_ ?_; (focus first | rfl | (refine plain_agg ?_; simp only [go_sem, List.all_append, List.all_cons, List.all_nil, Bool.and_self]; done)); (focus (first | rfl | (simp only [Int.natCast_add, Int.natCast_one, Int.natCast_zero, Int.cast_ofNat_Int, Nat.add_zero]; done) | (simp only [Int.natCast_add, Int.natCast_one, Int.natCast_zero, Int.cast_ofNat_Int, Nat.add_zero]; rfl)))) | (refine JR_sl' ?_ ?_ ?_ ?_; (focus first | (rw [rhoF_new0]; rfl) | (rw [rhoF_new]; rfl) | (rw [rhoF_old]; first | assumption | omega)); (focus first | assumption | omega | (simp only [List.length_append, List.length_cons, List.length_nil, List.length_replicate]; omega)); (focus first | rfl | omega | (first | rfl | (simp only [Int.natCast_add, Int.natCast_one, Int.natCast_zero, Int.cast_ofNat_Int, Nat.add_zero]; done) | (simp only [Int.natCast_add, Int.natCast_one, Int.natCast_zero, Int.cast_ofNat_Int, Nat.add_zero]; rfl))))))))
  · have hln := hx_len f n
    (repeat (first | ((first | (refine And.intro ?_ ?_; focus exact PLA) | refine WA_seq (WA_region ?_) | refine WA_region ?_ | refine WA_exit ?_); try simp (maxSteps := 1000000) (disch := first | omega | rfl | decide | (simp only [List.length_cons, List.length_nil, List.length_append, Bs_length, Is_length, Vs_length, Bl_length, Il_length] <;> omega)) only [go_sem, Nat.reduceAdd, Int.reduceAdd, Int.reduceSub, Int.reduceMul, Bool.not_true, Bool.not_false]) | refine WA_seq ?_ | refine WA_block ?_ | (refine WA_skip ?_; try simp only [go_sem]) | (refine WA_ret ?_; try simp only [go_sem]) | refine WA_ct rfl ?_ | refine WA_cf rfl ?_))
    ((first | refine ret_nA ?_ | refine ret_sA ?_ | refine ret_fA ?_); simp (maxSteps := 1000000) (disch := first | omega | rfl | decide | (simp only [List.length_cons, List.length_nil, List.length_append, Bs_length, Is_length, Vs_length, Bl_length, Il_length] <;> omega)) only [go_sem, Nat.reduceAdd, Int.reduceAdd, Int.reduceSub, Int.reduceMul, Bool.not_true, Bool.not_false, hxT]; try rfl)

theorem hexS_ac {h : List Blk} {b n : Nat} {f : Nat → UInt8} {r : Bool} (hb : h[b]? = some ⟨Bs n f, r⟩) (hn : n ≤ 1000000) : AC Tryd.prog 25 [sl b 0 n 1] h (.string (hxT f n)) h := by
  have hbl := blt hb
  (refine AC_begin (fun _ _ => Tryd.call25 _ _) Tryd.func25 rfl Tryd.ntmps25 Tryd.results25 (fun hwf => ?_); simp only [List.length_cons, List.length_nil, Nat.reduceAdd, Nat.reduceSub, List.replicate, List.cons_append, List.nil_append])
  (repeat (first | ((first | (refine And.intro ?_ ?_; focus exact PLA) | refine WA_seq (WA_region ?_) | refine WA_region ?_ | refine WA_exit ?_); try simp (maxSteps := 1000000) (disch := first | omega | rfl | decide | (simp only [List.length_cons, List.length_nil, List.length_append, Bs_length, Is_length, Vs_length, Bl_length, Il_length] <;> omega)) only [go_sem, Nat.reduceAdd, Int.reduceAdd, Int.reduceSub, Int.reduceMul, Bool.not_true, Bool.not_false]) | refine WA_seq ?_ | refine WA_block ?_ | (refine WA_skip ?_; try simp only [go_sem]) | (refine WA_ret ?_; try simp only [go_sem]) | refine WA_ct rfl ?_ | refine WA_cf rfl ?_))
  refine WA_forP (fun k => [(4, sl h.length 0 (2 * k) 1), (5, .int .i64 k), (6, J), (7, J), (8, J), (9, J), (10, J), (11, J), (12, J), (13, J), (14, J), (15, J), (16, J), (17, J), (18, J), (19, J), (20, J), (21, J), (22, J), (23, J), (24, J), (25, J), (26, J), (27, J), (28, J), (29, J)]) (fun k => [(0, ⟨Bl (hx f k), true⟩)]) (n) ?_ ?_ ?_ <;> (try simp only [patT_cons, patT_nil, patL_cons, patL_nil, list_set_zero, list_set_succ, blk_set_zero, blk_set_succ])
  · (refine Drop_slots (by first | exact Nat.le_refl _ | simp) ?_; focus ((try simp only [JL_same, JL_J, JL_nil, Int.reduceAdd, Nat.sub_sub, Int.natCast_add, Int.natCast_one, Int.natCast_zero, Int.cast_ofNat_Int, Nat.add_zero, Bool.false_eq_true, if_false, if_true, hx]); (try exact JL_refl _)))
  · intro k hk
    have hx1 := tab16 (P := Tryd.prog) (T := 9) (by kernel_rfl) (f k / 16) (by rw [hi16]; have := u8_lt (f k); omega)
    have hx2 := tab16 (P := Tryd.prog) (T := 9) (by kernel_rfl) (f k % 16) (by rw [lo16]; omega)
    rw [hi16] at hx1
    rw [lo16] at hx2
    have hl := hx_len f k
    (repeat (first | ((first | (refine And.intro ?_ ?_; focus exact PLA) | refine WA_seq (WA_region ?_) | refine WA_region ?_ | refine WA_exit ?_); try simp (maxSteps := 1000000) (disch := first | omega | rfl | decide | (simp only [List.length_cons, List.length_nil, List.length_append, Bs_length, Is_length, Vs_length, Bl_length, Il_length] <;> omega)) only [go_sem, Nat.reduceAdd, Int.reduceAdd, Int.reduceSub, Int.reduceMul, Bool.not_true, Bool.not_false, look_old hb, hx1, hx2, hl, sub2, Bl_hx]) | (refine (WA_rb (id := 5) [15, 16] (SubM.refl _) mixedOk ?_); simp only [List.size_toArray, List.length_cons, List.length_nil]; (repeat (first | ((first | (refine And.intro ?_ ?_; focus exact PLA) | refine RB_take false [0, 1, 2, 3, 4, 8, 9, 10, 11] 9 (by rfl) (by kernel_rfl) (by decide) (by decide +kernel) ?_ | refine RB_take true [5, 12] 7 (by rfl) (by kernel_rfl) (by decide) (by decide +kernel) ?_ | refine RB_take false [6, 7, 13, 14] 3 (by rfl) (by kernel_rfl) (by decide) (by decide +kernel) ?_ | refine RB_exec 15 _ (by rfl) (by decide +kernel) (by decide +kernel) ?_ | refine RB_exec 16 _ (by rfl) (by decide +kernel) (by decide +kernel) ?_ | refine RB_take false [17] 0 (by rfl) (by kernel_rfl) (by decide) (by decide +kernel) ?_ | refine RB_done (by decide +kernel) ?_); try simp (maxSteps := 1000000) (disch := first | omega | rfl | decide | (simp only [List.length_cons, List.length_nil, List.length_append, Bs_length, Is_length, Vs_length, Bl_length, Il_length] <;> omega)) only [go_sem, Nat.reduceAdd, Int.reduceAdd, Int.reduceSub, Int.reduceMul, Bool.not_true, Bool.not_false, look_old hb, hx1, hx2, hl, sub2, Bl_hx])))) | refine WA_seq ?_ | refine WA_block ?_ | (refine WA_skip ?_; try simp only [go_sem]) | (refine WA_ret ?_; try simp only [go_sem]) | refine WA_ct rfl ?_ | refine WA_cf rfl ?_))
    (refine Drop_gc [2] (by first | exact Nat.le_refl _ | first | assumption | omega | (simp only [List.length_append, List.length_cons, List.length_nil, List.length_replicate]; omega)) (by assumption) (by decide) ?_ ?_; (focus (repeat (first | exact trivial | (refine And.intro ⟨_, rfl, ?_⟩ ?_; (focus first | (refine Fit_plain ?_; simp only [go_sem, List.all_append, List.all_cons, List.all_nil, Bool.and_self]; done) | exact Fit_nil rfl | exact Fit_dead | (refine Fit_eq ?_ ?_; (focus simp only [go_sem, List.all_append, List.all_cons, List.all_nil, Bool.and_self]); (focus (first | rfl | (simp only [Int.natCast_add, Int.natCast_one, Int.natCast_zero, Int.cast_ofNat_Int, Nat.add_zero]; done) | (simp only [Int.natCast_add, Int.natCast_one, Int.natCast_zero, Int.cast_ofNat_Int, Nat.add_zero]; rfl))))))))); (focus (repeat (first | exact JR_nil | refine JR_J ?_ | (refine JR_plain ?_ ?_; (focus first | rfl | (refine plain_agg ?_; simp only [go_sem, List.all_append, List.all_cons, List.all_nil, Bool.and_self]; done))) | ((first | refine JR_pt ?_ ?_ ?_ | refine JR_sl ?_ ?_ ?_); (focus first | (rw [rhoF_new0]; rfl) | (rw [rhoF_new]; rfl) | (rw [rhoF_old]; first | assumption | omega)); (focus first | assumption | omega | (simp only [List.length_append, List.length_cons, List.length_nil, List.length_replicate]; omega))) | (refine JR_plain' ?_ ?_ ?_; (focus first | rfl | (refine plain_agg ?_; simp only [go_sem, List.all_append, List.all_cons, List.all_nil, Bool.and_self]; done)); (focus (first | rfl | (simp only [Int.natCast_add, Int.natCast_one, Int.natCast_zero, Int.cast_ofNat_Int, Nat.add_zero]; done) | (simp only [Int.natCast_add, Int.natCast_one, Int.natCast_zero, Int.cast_ofNat_Int, Nat.add_zero]; rfl)))) | (refine JR_sl' ?_ ?_ ?_ ?_; (focus first | (rw [rhoF_new0]; rfl) | (rw [rhoF_new]; rfl) | (rw [rhoF_old]; first | assumption | omega)); (focus first | assumption | omega | (simp only [List.length_append, List.length_cons, List.length_nil, List.length_replicate]; omega)); (focus first | rfl | omega | (first | rfl | (simp only [Int.natCast_add, Int.natCast_one, Int.natCast_zero, Int.cast_ofNat_Int, Nat.add_zero]; done) | (simp only [Int.natCast_add, Int.natCast_one, Int.natCast_zero, Int.cast_ofNat_Int, Nat.add_zero]; rfl))))))))
  · have hln := hx_len f n
    (repeat (first | ((first | (refine And.intro ?_ ?_; focus exact PLA) | refine WA_seq (WA_region ?_) | refine WA_region ?_ | refine WA_exit ?_); try simp (maxSteps := 1000000) (disch := first | omega | rfl | decide | (simp only [List.length_cons, List.length_nil, List.length_append, Bs_length, Is_length, Vs_length, Bl_length, Il_length] <;> omega)) only [go_sem, Nat.reduceAdd, Int.reduceAdd, Int.reduceSub, Int.reduceMul, Bool.not_true, Bool.not_false]) | refine WA_seq ?_ | refine WA_block ?_ | (refine WA_skip ?_; try simp only [go_sem]) | (refine WA_ret ?_; try simp only [go_sem]) | refine WA_ct rfl ?_ | refine WA_cf rfl ?_))
    ((first | refine ret_nA ?_ | refine ret_sA ?_ | refine ret_fA ?_); simp (maxSteps := 1000000) (disch := first | omega | rfl | decide | (simp only [List.length_cons, List.length_nil, List.length_append, Bs_length, Is_length, Vs_length, Bl_length, Il_length] <;> omega)) only [go_sem, Nat.reduceAdd, Int.reduceAdd, Int.reduceSub, Int.reduceMul, Bool.not_true, Bool.not_false, hxT]; try rfl)

theorem bxtI_ac (f : Nat → UInt8) (h : List Blk) : AC Tryd.prog 17 [.agg (Bs 256 f).toArray] h (.string (hxT f 256)) h := by
  (refine AC_begin (fun _ _ => Tryd.call17 _ _) Tryd.func17 rfl Tryd.ntmps17 Tryd.results17 (fun hwf => ?_); simp only [List.length_cons, List.length_nil, Nat.reduceAdd, Nat.reduceSub, List.replicate, List.cons_append, List.nil_append])
  (repeat (first | ((first | (refine And.intro ?_ ?_; focus exact PLA) | ((first | with_reducible apply callB_i | with_reducible apply callK_intro | with_reducible apply callQ_i); (focus (first | assumption | (with_reducible apply hexI_ac <;> (first | assumption | (refine look_old ?_ _; assumption) | rfl | (simp (disch := omega) only [go_sem]; first | done | rfl) | omega | decide | (simp; done))))); (try exact WP_au)) | refine WA_seq (WA_region ?_) | refine WA_region ?_ | refine WA_exit ?_); try simp (maxSteps := 1000000) (disch := first | omega | rfl | decide | (simp only [List.length_cons, List.length_nil, List.length_append, Bs_length, Is_length, Vs_length, Bl_length, Il_length] <;> omega)) only [go_sem, Nat.reduceAdd, Int.reduceAdd, Int.reduceSub, Int.reduceMul, Bool.not_true, Bool.not_false]) | refine WA_seq ?_ | refine WA_block ?_ | (refine WA_skip ?_; try simp only [go_sem]) | (refine WA_ret ?_; try simp only [go_sem]) | refine WA_ct rfl ?_ | refine WA_cf rfl ?_))
  ((first | refine ret_nA ?_ | refine ret_sA ?_ | refine ret_fA ?_); simp (maxSteps := 1000000) (disch := first | omega | rfl | decide | (simp only [List.length_cons, List.length_nil, List.length_append, Bs_length, Is_length, Vs_length, Bl_length, Il_length] <;> omega)) only [go_sem, Nat.reduceAdd, Int.reduceAdd, Int.reduceSub, Int.reduceMul, Bool.not_true, Bool.not_false]; try rfl)

end Go.Proofs.YtpomeeakmpbocaaDoor
/- Texts cut at a sign: the reference and the library. -/
namespace Go.Proofs.YtpomeeakmpbocaaDoor
set_option linter.unusedSimpArgs false
set_option linter.unusedVariables false
set_option maxRecDepth 20000
set_option maxHeartbeats 1000000
open Go.Abs

def Ss (L : List ByteArray) : List Value := L.map Value.string
@[go_sem] theorem Ss_length (L : List ByteArray) : (Ss L).length = L.length := by simp [Ss]
@[go_sem] theorem Ss_plain (L : List ByteArray) : (Ss L).all plainC = true := by
  unfold Ss; rw [List.all_map, List.all_eq_true]; intro x _; rfl
theorem Ss_snoc (L : List ByteArray) (x : ByteArray) : Ss L ++ [.string x] = Ss (L ++ [x]) := by unfold Ss; rw [List.map_append]; rfl
theorem Ss_nil : Ss [] = [] := rfl
@[go_sem] theorem Ss_get {L : List ByteArray} {i : Nat} (h : i < L.length) : (Ss L)[i]? = some (.string (L.getD i ⟨#[]⟩)) := by simp [Ss, h, List.getD_eq_getElem?_getD]
theorem lit1S (z v : Value) : splice (repA [z] 1) (0 * 1) [v] = [v] := by rw [repA_one]; rfl
@[go_sem] theorem growR_Ss {h : List Blk} {b by' m : Nat} {L : List ByteArray} {news : List Value} (h2 : (L.length + m) * by' ≤ 140737488355328) : growR h b (some ⟨Ss L, true⟩) L.length 1 by' m news = some (sl h.length 0 (L.length + m) 1, h.set b dead ++ [⟨Ss L ++ news, true⟩]) := growR_some (by rw [Ss_length, Nat.mul_one]) h2
end Go.Proofs.YtpomeeakmpbocaaDoor
/- Texts of ciphers: pieces joined, signs taken away, numerals. Plain. -/
namespace Go.Proofs.YtpomeeakmpbocaaDoor
set_option linter.unusedSimpArgs false
set_option linter.unusedVariables false
set_option maxRecDepth 20000
set_option maxHeartbeats 1000000
open Go.Abs

def joinB (L : List ByteArray) (sep : ByteArray) : ByteArray := ⟨(Lib.join (L.map (·.data.toList)) sep.data.toList).toArray⟩
def dT (n : Int) : ByteArray := ⟨(Lib.itoa n).toArray⟩
theorem app_list (x y : ByteArray) : (x ++ y).data.toList = x.data.toList ++ y.data.toList := by simp [ByteArray.data_append]
theorem join_five (a b c d e s : ByteArray) : joinB [a, b, c, d, e] s = a ++ s ++ b ++ s ++ c ++ s ++ d ++ s ++ e := ba_inj (by
  simp only [joinB, app_list, List.map_cons, List.map_nil, Lib.join_cons, Lib.joinTail, List.flatten_cons, List.flatten_nil, List.append_nil, List.append_assoc])
/-- All signs c taken away. -/
theorem replaceK_filter (c : UInt8) : ∀ l : List UInt8, Lib.replaceK [c] [] (Lib.count l [c]) l = l.filter (· != c)
  | [] => by rw [Lib.count_one]; rfl
  | b :: l => by
    have ih := replaceK_filter c l
    by_cases h : b = c
    · subst h
      rw [Lib.count_cons_eq, Nat.add_comm, Lib.replaceK, index_same, if_neg (by decide)]
      show List.take 0 (b :: l) ++ [] ++ Lib.replaceK [b] [] (Lib.count l [b]) (List.drop 1 (b :: l)) = _
      rw [List.take_zero, List.nil_append, List.nil_append, List.drop_one, List.tail_cons, ih]
      simp
    · have hf : (b :: l).filter (· != c) = b :: l.filter (· != c) := List.filter_cons_of_pos (by simpa using h)
      rw [Lib.count_cons_ne b c l h, hf, ← ih]
      by_cases hm : Lib.index l [c] = -1
      · rw [Lib.count_miss hm]; rfl
      · have hge := Lib.index_ge l [c]
        obtain ⟨j, hj⟩ : ∃ j : Nat, Lib.index l [c] = j := ⟨(Lib.index l [c]).toNat, by omega⟩
        have hc := Lib.count_hit (s := l) (sub := [c]) (by simp) hj
        obtain ⟨n, hn⟩ : ∃ n, Lib.count l [c] = n + 1 := ⟨_, by rw [hc, Nat.add_comm]⟩
        have hix : Lib.index (b :: l) [c] = ((j + 1 : Nat) : Int) := by
          rw [index_other h, if_neg (fun e => hm (beq_iff_eq.1 e)), hj]; omega
        rw [hn, Lib.replaceK_hit _ _ _ _ _ hix, Lib.replaceK_hit _ _ _ _ _ hj]
        rfl
theorem replaceAll_filter (c : UInt8) (l : List UInt8) : Lib.replaceAll l [c] [] = l.filter (· != c) := by
  unfold Lib.replaceAll Lib.replace Lib.replaceNum
  rw [if_neg (by simp), if_pos (.inl (by decide)), replaceK_filter]
theorem hexC_47 (n : Nat) : hexC n ≠ 47 := by
  rcases Nat.lt_or_ge n 16 with h | h
  · have : ∀ n, n < 16 → hexC n ≠ 47 := by decide +kernel
    exact this n h
  · have e : hexC n = 0 := by
      unfold hexC
      rw [Array.getD_eq_getD_getElem?, Array.getElem?_eq_none (by exact h)]; rfl
    rw [e]; decide
theorem hx_filter (f : Nat → UInt8) : ∀ n, (hx f n).filter (· != 47) = hx f n
  | 0 => rfl
  | n + 1 => by
    have h1 : (hexC ((f n).toNat / 16) != 47) = true := bne_iff_ne.2 (hexC_47 _)
    have h2 : (hexC ((f n).toNat % 16) != 47) = true := bne_iff_ne.2 (hexC_47 _)
    rw [hx, List.filter_append, hx_filter f n, List.filter_cons, h1, List.filter_cons, h2]; rfl
theorem hx_add (f : Nat → UInt8) (n : Nat) : ∀ m, hx f (n + m) = hx f n ++ hx (fun i => f (n + i)) m
  | 0 => by rw [Nat.add_zero]; exact (List.append_nil _).symm
  | m + 1 => by
    show hx f (n + m) ++ _ = hx f n ++ (hx (fun i => f (n + i)) m ++ _)
    rw [hx_add f n m, List.append_assoc]; rfl
/-- The rows' texts. -/
def mtL (a : Nat → UInt8) (k : Nat) : List ByteArray := (List.range k).map fun i => hxT (fun t => a (i * 4 + t)) 4
theorem mtL_len (a : Nat → UInt8) (k : Nat) : (mtL a k).length = k := by unfold mtL; simp
theorem mtL_snoc (a : Nat → UInt8) (k : Nat) : mtL a k ++ [hxT (fun t => a (k * 4 + t)) 4] = mtL a (k + 1) := by unfold mtL; rw [List.range_succ, List.map_append]; rfl
theorem mtL_zero (a : Nat → UInt8) : mtL a 0 = [] := rfl
theorem hx_four (a : Nat → UInt8) : hx a 16 = hx (fun t => a (0 * 4 + t)) 4 ++ (hx (fun t => a (1 * 4 + t)) 4 ++ (hx (fun t => a (2 * 4 + t)) 4 ++ hx (fun t => a (3 * 4 + t)) 4)) := by
  have e0 : (fun t => a (0 * 4 + t)) = a := funext fun t => by rw [Nat.zero_mul, Nat.zero_add]
  have e2 : (fun t => a (4 + (4 + t))) = fun t => a (2 * 4 + t) := funext fun t => by rw [← Nat.add_assoc]
  have e3 : (fun t => a (4 + (4 + (4 + t)))) = fun t => a (3 * 4 + t) := funext fun t => by rw [← Nat.add_assoc, ← Nat.add_assoc]
  rw [e0, show (16 : Nat) = 4 + 12 from rfl, hx_add a 4 12, show (12 : Nat) = 4 + 8 from rfl, hx_add _ 4 8, show (8 : Nat) = 4 + 4 from rfl, hx_add _ 4 4, ← e2, ← e3]
def mtT (a : Nat → UInt8) : ByteArray := joinB (mtL a 4) ⟨#[47]⟩
theorem mtT_list (a : Nat → UInt8) : (mtT a).data.toList = hx (fun t => a (0 * 4 + t)) 4 ++ ([47] ++ (hx (fun t => a (1 * 4 + t)) 4 ++ ([47] ++ (hx (fun t => a (2 * 4 + t)) 4 ++ ([47] ++ hx (fun t => a (3 * 4 + t)) 4))))) := by
  show Lib.join [hx (fun t => a (0 * 4 + t)) 4, hx (fun t => a (1 * 4 + t)) 4, hx (fun t => a (2 * 4 + t)) 4, hx (fun t => a (3 * 4 + t)) 4] [47] = _
  simp only [Lib.join_cons, Lib.joinTail, List.map_cons, List.map_nil, List.flatten_cons, List.flatten_nil, List.append_nil, List.append_assoc]
theorem mtT_size (a : Nat → UInt8) : (mtT a).size = 35 := by
  rw [sz_list, mtT_list]
  simp only [List.length_append, hx_len, List.length_cons, List.length_nil]
/-- The matrix' text without its signs. -/
theorem mtT_all (a : Nat → UInt8) : (⟨(Lib.replaceAll (mtT a).data.toList [47] []).toArray⟩ : ByteArray) = hxT a 16 := by
  rw [replaceAll_filter, mtT_list]
  unfold hxT
  rw [hx_four]
  simp only [List.filter_append, hx_filter]
  rfl
theorem dT_small {n : Nat} (h : n < 10) : dT n = ⟨#[UInt8.ofNat (48 + n)]⟩ := by
  unfold dT Lib.itoa
  rw [if_neg (by omega), Int.toNat_natCast, Lib.decDigits, dif_pos h]
theorem dT_step {n : Nat} (h : 10 ≤ n) : dT n = dT ((n / 10 : Nat) : Int) ++ ⟨#[UInt8.ofNat (48 + n % 10)]⟩ := ba_inj (by
  rw [app_list]
  show Lib.itoa (n : Int) = Lib.itoa ((n / 10 : Nat) : Int) ++ [UInt8.ofNat (48 + n % 10)]
  unfold Lib.itoa
  rw [if_neg (by omega), if_neg (by omega), Int.toNat_natCast, Int.toNat_natCast]
  conv => lhs; rw [Lib.decDigits, dif_neg (by omega)])
/-- The text of a cipher. -/
def ciT (m : Int) (bx mx pl : Nat → UInt8) (r : Int) : ByteArray := dT m ++ ⟨#[47]⟩ ++ hxT bx 256 ++ ⟨#[47]⟩ ++ hxT mx 16 ++ ⟨#[47]⟩ ++ hxT pl 16 ++ ⟨#[47]⟩ ++ dT r
end Go.Proofs.YtpomeeakmpbocaaDoor
/- What the library's functions on texts return, as the abstract machine sees it. -/
namespace Go.Proofs.YtpomeeakmpbocaaDoor
set_option linter.unusedSimpArgs false
set_option linter.unusedVariables false
set_option maxRecDepth 20000
set_option maxHeartbeats 1000000
open Go.Abs
/-- A call that returns a plain value and leaves what was there. -/
theorem AC_below {P : Program} {f : FuncId} {args : List Value} {h : List Blk} {v : Value} (hcall : CallOk P f) (hv : plainV v = true)
    (hc : ∀ (E : Emb) (w : World) (args' : Array Value), HR E h w → P2 (VR E h.length) args args'.toList → Calls P f args' w fun e w' => e = .returned v ∧ RowKit.Below w.heap.size w w') : AC P f args h v h :=
  ⟨hcall, fun E w args' hr ha => (hc E w args' hr ha).mono fun e w' ⟨he, hb⟩ =>
    ⟨E, v, he, VR.of_plain hv, hr.same (below_same hb) hb.size,
      ⟨Nat.le_refl _, fun _ _ => rfl, fun _ _ => ⟨rfl, rfl⟩, hb.size, hb.os, hb.tape, hb.output, fun i hi _ => below_same hb i hi, fun b k hk hrw => .inr ⟨b, k, hk, hrw, rfl⟩⟩⟩⟩

@[go_sem] theorem pres_convert {hS : List Blk} {d} {t : List Value} {T U : TypeId} {x : Operand} {ty pos af g} : presOk t hS ⟨d, .convert T U x, ty, pos, af, g⟩ = True := rfl
@[go_sem] theorem pres_load {hS : List Blk} {d} {t : List Value} {T : TypeId} {x : Operand} {ty pos af g} : presOk t hS ⟨d, .load T x, ty, pos, af, g⟩ = True := rfl
theorem Bl_one (x : UInt8) : ([B x] : List Value) = Bl [x] := rfl
theorem Bl_spl (x y : UInt8) : splice (Bl [x]) 0 (Bl [y]) = Bl [y] := rfl
theorem join_ac {h : List Blk} {b : Nat} {L : List ByteArray} {r : Bool} (hb : h[b]? = some ⟨Ss L, r⟩) (hL : 0 < L.length) (hN : L.length ≤ 1000) (sep : ByteArray) (hlen : (joinB L sep).size ≤ 140737488355328) : AC Tryd.prog 15 [sl b 0 L.length 1, .string sep] h (.string (joinB L sep)) h := by
  refine AC_below (fun _ _ => Tryd.call15 _ _) rfl fun E w args' hH hA => ?_
  obtain ⟨hl, hg⟩ := hA
  obtain ⟨l⟩ := args'
  match l, hl, hg with
  | [u, v], _, hg =>
    have h0 := hg 0 _ _ rfl rfl
    have hv : v = .string sep := hg 1 _ _ rfl rfl
    obtain ⟨_, hlt, a', cap, rfl, hle, hc⟩ := (show CR E h.length (sl b 0 L.length 1) u from h0)
    subst hv
    rcases hc with hc | ⟨rfl, _⟩
    · omega
    · refine Calls.mono (Tryd.strings_Join (E.loc b) (E.base b + 0) cap L sep w (fun j x hx => ?_) (hH.lt b _ hb) (by omega) hle hlen) fun e w' hw => hw
      have hx' : (Ss L)[j]? = some (.string x) := by unfold Ss; rw [List.getElem?_map, hx]; rfl
      obtain ⟨y, hy, hr⟩ := hH.cell b _ j _ hb hx'
      have e : y = .string x := hr
      rw [← e, Nat.add_zero]; exact hy

theorem replaceAll_ac {s : ByteArray} (hs : s.size ≤ 1000000) (h : List Blk) : AC Tryd.prog 13 [.string s, .string ⟨#[47]⟩, .string ⟨#[]⟩] h (.string ⟨(Lib.replaceAll s.data.toList [47] []).toArray⟩) h := by
  refine AC_below (fun _ _ => Tryd.call13 _ _) rfl fun E w args' hH hA => ?_
  obtain ⟨hl, hg⟩ := hA
  obtain ⟨l⟩ := args'
  match l, hl, hg with
  | [u, v, x], _, hg =>
    have hu : u = .string s := hg 0 _ _ rfl rfl
    have hv : v = .string ⟨#[47]⟩ := hg 1 _ _ rfl rfl
    have hx : x = .string ⟨#[]⟩ := hg 2 _ _ rfl rfl
    subst hu hv hx
    obtain ⟨m, hm⟩ := hH.door.maxLen
    have hz : (⟨#[]⟩ : ByteArray).size = 0 := rfl
    exact Tryd.strings_ReplaceAll s ⟨#[47]⟩ ⟨#[]⟩ m w (by omega) hm (by decide) (by rw [hz, Nat.mul_zero]; omega)

theorem formatInt_ac {n : Int} (h0 : -9223372036854775808 ≤ n) (h1 : n ≤ 9223372036854775807) (h : List Blk) : AC Tryd.prog 37 [.int .i64 n, .int .i64 10] h (.string (dT n)) h := by
  refine AC_below (fun _ _ => Tryd.call37 _ _) rfl fun E w args' hH hA => ?_
  obtain ⟨hl, hg⟩ := hA
  obtain ⟨l⟩ := args'
  match l, hl, hg with
  | [u, v], _, hg =>
    have hu : u = .int .i64 n := hg 0 _ _ rfl rfl
    have hv : v = .int .i64 10 := hg 1 _ _ rfl rfl
    subst hu hv
    refine Calls.mono (Tryd.strconv_FormatInt_10 n h0 h1 w hH.door.pow10) fun e w' ⟨he, k, os, hw⟩ => ⟨he, ?_⟩
    subst hw
    exact Lib.below_grow _ w (Nat.le_refl _) k os

theorem decI_ac {n : Int} (h0 : -9223372036854775808 ≤ n) (h1 : n ≤ 9223372036854775807) (h : List Blk) : AC Tryd.prog 16 [.int .i64 n] h (.string (dT n)) h := by
  (refine AC_begin (fun _ _ => Tryd.call16 _ _) Tryd.func16 rfl Tryd.ntmps16 Tryd.results16 (fun hwf => ?_); simp only [List.length_cons, List.length_nil, Nat.reduceAdd, Nat.reduceSub, List.replicate, List.cons_append, List.nil_append])
  (repeat (first | ((first | (refine And.intro ?_ ?_; focus exact PLA) | ((first | with_reducible apply callB_i | with_reducible apply callK_intro | with_reducible apply callQ_i); (focus (first | assumption | (with_reducible apply formatInt_ac h0 h1 <;> (first | assumption | rfl | (simp (disch := omega) only [go_sem]; first | done | rfl) | omega | decide | (simp; done))))); (try exact WP_au)) | refine WA_seq (WA_region ?_) | refine WA_region ?_ | refine WA_exit ?_); try simp (maxSteps := 1000000) (disch := first | omega | rfl | decide | (simp only [List.length_cons, List.length_nil, List.length_append, Bs_length, Is_length, Vs_length, Bl_length, Il_length] <;> omega)) only [go_sem, Nat.reduceAdd, Int.reduceAdd, Int.reduceSub, Int.reduceMul, Bool.not_true, Bool.not_false]) | refine WA_seq ?_ | refine WA_block ?_ | (refine WA_skip ?_; try simp only [go_sem]) | (refine WA_ret ?_; try simp only [go_sem]) | refine WA_ct rfl ?_ | refine WA_cf rfl ?_))
  ((first | refine ret_nA ?_ | refine ret_sA ?_ | refine ret_fA ?_); simp (maxSteps := 1000000) (disch := first | omega | rfl | decide | (simp only [List.length_cons, List.length_nil, List.length_append, Bs_length, Is_length, Vs_length, Bl_length, Il_length] <;> omega)) only [go_sem, Nat.reduceAdd, Int.reduceAdd, Int.reduceSub, Int.reduceMul, Bool.not_true, Bool.not_false]; try rfl)

theorem decS1_ac {n : Nat} (hn : n < 10) (h : List Blk) : AC Tryd.prog 24 [.int .i64 n] h (.string (dT n)) h := by
  rw [dT_small hn]
  have hd : decide (((n : Nat) : Int) < 10) = true := decide_eq_true (by omega)
  have hw : IntKind.i64.wrap ((48 : Int) + (n : Int)) = ((48 + n : Nat) : Int) := by rw [show (48 : Int) + (n : Int) = ((48 + n : Nat) : Int) by omega]; exact wrap_N (by omega)
  (refine AC_begin (fun _ _ => Tryd.call24 _ _) Tryd.func24 rfl Tryd.ntmps24 Tryd.results24 (fun hwf => ?_); simp only [List.length_cons, List.length_nil, Nat.reduceAdd, Nat.reduceSub, List.replicate, List.cons_append, List.nil_append])
  (repeat (first | ((first | (refine And.intro ?_ ?_; focus exact PLA) | refine WA_seq (WA_region ?_) | refine WA_region ?_ | refine WA_exit ?_); try simp (maxSteps := 1000000) (disch := first | omega | rfl | decide | (simp only [List.length_cons, List.length_nil, List.length_append, Bs_length, Is_length, Vs_length, Bl_length, Il_length] <;> omega)) only [go_sem, Nat.reduceAdd, Int.reduceAdd, Int.reduceSub, Int.reduceMul, Bool.not_true, Bool.not_false, hd, hw, lit1S, Bl_spl, Bl_one]) | refine WA_seq ?_ | refine WA_block ?_ | (refine WA_skip ?_; try simp only [go_sem]) | (refine WA_ret ?_; try simp only [go_sem]) | refine WA_ct rfl ?_ | refine WA_cf rfl ?_))
  ((first | refine ret_nA ?_ | refine ret_sA ?_ | refine ret_fA ?_); simp (maxSteps := 1000000) (disch := first | omega | rfl | decide | (simp only [List.length_cons, List.length_nil, List.length_append, Bs_length, Is_length, Vs_length, Bl_length, Il_length] <;> omega)) only [go_sem, Nat.reduceAdd, Int.reduceAdd, Int.reduceSub, Int.reduceMul, Bool.not_true, Bool.not_false, UInt8.ofNat_toNat]; try rfl)
theorem decS2_ac {n : Nat} (h10 : 10 ≤ n) (hn : n < 100) (h : List Blk) (hr : ∀ H : List Blk, AC Tryd.prog 24 [.int .i64 ((n / 10 : Nat) : Int)] H (.string (dT ((n / 10 : Nat) : Int))) H) (hs : (dT ((n / 10 : Nat) : Int)).size ≤ 1000) : AC Tryd.prog 24 [.int .i64 n] h (.string (dT n)) h := by
  rw [dT_step h10]
  have h1b : (⟨#[UInt8.ofNat (48 + n % 10)]⟩ : ByteArray).size = 1 := rfl
  have hd : decide (((n : Nat) : Int) < 10) = false := decide_eq_false (by omega)
  have hq : Int.tdiv ((n : Nat) : Int) 10 = ((n / 10 : Nat) : Int) := by rw [Int.tdiv_eq_ediv_of_nonneg (by omega)]; omega
  have hq2 : IntKind.i64.wrap ((n / 10 : Nat) : Int) = ((n / 10 : Nat) : Int) := wrap_N (by omega)
  have hm : Int.tmod ((n : Nat) : Int) 10 = ((n % 10 : Nat) : Int) := by rw [Int.tmod_eq_emod_of_nonneg (by omega)]; omega
  have hw : IntKind.i64.wrap ((48 : Int) + ((n % 10 : Nat) : Int)) = ((48 + n % 10 : Nat) : Int) := by rw [show (48 : Int) + ((n % 10 : Nat) : Int) = ((48 + n % 10 : Nat) : Int) by omega]; exact wrap_N (by omega)
  (refine AC_begin (fun _ _ => Tryd.call24 _ _) Tryd.func24 rfl Tryd.ntmps24 Tryd.results24 (fun hwf => ?_); simp only [List.length_cons, List.length_nil, Nat.reduceAdd, Nat.reduceSub, List.replicate, List.cons_append, List.nil_append])
  (repeat (first | ((first | (refine And.intro ?_ ?_; focus exact PLA) | ((first | with_reducible apply callB_i | with_reducible apply callK_intro | with_reducible apply callQ_i); (focus (first | assumption | (with_reducible apply hr <;> (first | assumption | rfl | (simp (disch := omega) only [go_sem]; first | done | rfl) | omega | decide | (simp; done))))); (try exact WP_au)) | refine WA_seq (WA_region ?_) | refine WA_region ?_ | refine WA_exit ?_); try simp (maxSteps := 1000000) (disch := first | omega | rfl | decide | (simp only [List.length_cons, List.length_nil, List.length_append, Bs_length, Is_length, Vs_length, Bl_length, Il_length] <;> omega)) only [go_sem, Nat.reduceAdd, Int.reduceAdd, Int.reduceSub, Int.reduceMul, Bool.not_true, Bool.not_false, hd, hq, hq2, hm, hw, lit1S, Bl_spl, Bl_one, UInt8.ofNat_toNat]) | (refine (WA_rb (id := 3) [] (SubM.refl _) mixedOk ?_); simp only [List.size_toArray, List.length_cons, List.length_nil]; (repeat (first | ((first | (refine And.intro ?_ ?_; focus exact PLA) | ((first | with_reducible apply callB_i | with_reducible apply callK_intro | with_reducible apply callQ_i); (focus (first | assumption | (with_reducible apply hr <;> (first | assumption | rfl | (simp (disch := omega) only [go_sem]; first | done | rfl) | omega | decide | (simp; done))))); (try exact WP_au)) | refine RB_take false [0, 1, 3, 4, 5, 6] 5 (by rfl) (by kernel_rfl) (by decide) (by decide +kernel) ?_ | refine RB_take true [2] 4 (by rfl) (by kernel_rfl) (by decide) (by decide +kernel) ?_ | refine RB_keep 7 _ (by rfl) (by decide +kernel) (by first | (simp (disch := first | omega | decide) only [go_sem, List.getElem?_nil]; done) | fail) ?_ | refine RB_keep 8 _ (by rfl) (by decide +kernel) (by first | (simp (disch := first | omega | decide) only [go_sem, List.getElem?_nil]; done) | fail) ?_ | refine RB_take false [9, 10] 0 (by rfl) (by kernel_rfl) (by decide) (by decide +kernel) ?_ | refine RB_done (by decide +kernel) ?_); try simp (maxSteps := 1000000) (disch := first | omega | rfl | decide | (simp only [List.length_cons, List.length_nil, List.length_append, Bs_length, Is_length, Vs_length, Bl_length, Il_length] <;> omega)) only [go_sem, Nat.reduceAdd, Int.reduceAdd, Int.reduceSub, Int.reduceMul, Bool.not_true, Bool.not_false, hd, hq, hq2, hm, hw, lit1S, Bl_spl, Bl_one, UInt8.ofNat_toNat])))) | refine WA_seq ?_ | refine WA_block ?_ | (refine WA_skip ?_; try simp only [go_sem]) | (refine WA_ret ?_; try simp only [go_sem]) | refine WA_ct rfl ?_ | refine WA_cf rfl ?_))
  ((first | refine ret_nA ?_ | refine ret_sA ?_ | refine ret_fA ?_); simp (maxSteps := 1000000) (disch := first | omega | rfl | decide | (simp only [List.length_cons, List.length_nil, List.length_append, Bs_length, Is_length, Vs_length, Bl_length, Il_length] <;> omega)) only [go_sem, Nat.reduceAdd, Int.reduceAdd, Int.reduceSub, Int.reduceMul, Bool.not_true, Bool.not_false, UInt8.ofNat_toNat]; try rfl)
theorem decS3_ac {n : Nat} (h10 : 10 ≤ n) (hn : n < 1000) (h : List Blk) (hr : ∀ H : List Blk, AC Tryd.prog 24 [.int .i64 ((n / 10 : Nat) : Int)] H (.string (dT ((n / 10 : Nat) : Int))) H) (hs : (dT ((n / 10 : Nat) : Int)).size ≤ 1000) : AC Tryd.prog 24 [.int .i64 n] h (.string (dT n)) h := by
  rw [dT_step h10]
  have h1b : (⟨#[UInt8.ofNat (48 + n % 10)]⟩ : ByteArray).size = 1 := rfl
  have hd : decide (((n : Nat) : Int) < 10) = false := decide_eq_false (by omega)
  have hq : Int.tdiv ((n : Nat) : Int) 10 = ((n / 10 : Nat) : Int) := by rw [Int.tdiv_eq_ediv_of_nonneg (by omega)]; omega
  have hq2 : IntKind.i64.wrap ((n / 10 : Nat) : Int) = ((n / 10 : Nat) : Int) := wrap_N (by omega)
  have hm : Int.tmod ((n : Nat) : Int) 10 = ((n % 10 : Nat) : Int) := by rw [Int.tmod_eq_emod_of_nonneg (by omega)]; omega
  have hw : IntKind.i64.wrap ((48 : Int) + ((n % 10 : Nat) : Int)) = ((48 + n % 10 : Nat) : Int) := by rw [show (48 : Int) + ((n % 10 : Nat) : Int) = ((48 + n % 10 : Nat) : Int) by omega]; exact wrap_N (by omega)
  (refine AC_begin (fun _ _ => Tryd.call24 _ _) Tryd.func24 rfl Tryd.ntmps24 Tryd.results24 (fun hwf => ?_); simp only [List.length_cons, List.length_nil, Nat.reduceAdd, Nat.reduceSub, List.replicate, List.cons_append, List.nil_append])
  (repeat (first | ((first | (refine And.intro ?_ ?_; focus exact PLA) | ((first | with_reducible apply callB_i | with_reducible apply callK_intro | with_reducible apply callQ_i); (focus (first | assumption | (with_reducible apply hr <;> (first | assumption | rfl | (simp (disch := omega) only [go_sem]; first | done | rfl) | omega | decide | (simp; done))))); (try exact WP_au)) | refine WA_seq (WA_region ?_) | refine WA_region ?_ | refine WA_exit ?_); try simp (maxSteps := 1000000) (disch := first | omega | rfl | decide | (simp only [List.length_cons, List.length_nil, List.length_append, Bs_length, Is_length, Vs_length, Bl_length, Il_length] <;> omega)) only [go_sem, Nat.reduceAdd, Int.reduceAdd, Int.reduceSub, Int.reduceMul, Bool.not_true, Bool.not_false, hd, hq, hq2, hm, hw, lit1S, Bl_spl, Bl_one, UInt8.ofNat_toNat]) | (refine (WA_rb (id := 3) [] (SubM.refl _) mixedOk ?_); simp only [List.size_toArray, List.length_cons, List.length_nil]; (repeat (first | ((first | (refine And.intro ?_ ?_; focus exact PLA) | ((first | with_reducible apply callB_i | with_reducible apply callK_intro | with_reducible apply callQ_i); (focus (first | assumption | (with_reducible apply hr <;> (first | assumption | rfl | (simp (disch := omega) only [go_sem]; first | done | rfl) | omega | decide | (simp; done))))); (try exact WP_au)) | refine RB_take false [0, 1, 3, 4, 5, 6] 5 (by rfl) (by kernel_rfl) (by decide) (by decide +kernel) ?_ | refine RB_take true [2] 4 (by rfl) (by kernel_rfl) (by decide) (by decide +kernel) ?_ | refine RB_keep 7 _ (by rfl) (by decide +kernel) (by first | (simp (disch := first | omega | decide) only [go_sem, List.getElem?_nil]; done) | fail) ?_ | refine RB_keep 8 _ (by rfl) (by decide +kernel) (by first | (simp (disch := first | omega | decide) only [go_sem, List.getElem?_nil]; done) | fail) ?_ | refine RB_take false [9, 10] 0 (by rfl) (by kernel_rfl) (by decide) (by decide +kernel) ?_ | refine RB_done (by decide +kernel) ?_); try simp (maxSteps := 1000000) (disch := first | omega | rfl | decide | (simp only [List.length_cons, List.length_nil, List.length_append, Bs_length, Is_length, Vs_length, Bl_length, Il_length] <;> omega)) only [go_sem, Nat.reduceAdd, Int.reduceAdd, Int.reduceSub, Int.reduceMul, Bool.not_true, Bool.not_false, hd, hq, hq2, hm, hw, lit1S, Bl_spl, Bl_one, UInt8.ofNat_toNat])))) | refine WA_seq ?_ | refine WA_block ?_ | (refine WA_skip ?_; try simp only [go_sem]) | (refine WA_ret ?_; try simp only [go_sem]) | refine WA_ct rfl ?_ | refine WA_cf rfl ?_))
  ((first | refine ret_nA ?_ | refine ret_sA ?_ | refine ret_fA ?_); simp (maxSteps := 1000000) (disch := first | omega | rfl | decide | (simp only [List.length_cons, List.length_nil, List.length_append, Bs_length, Is_length, Vs_length, Bl_length, Il_length] <;> omega)) only [go_sem, Nat.reduceAdd, Int.reduceAdd, Int.reduceSub, Int.reduceMul, Bool.not_true, Bool.not_false, UInt8.ofNat_toNat]; try rfl)

end Go.Proofs.YtpomeeakmpbocaaDoor
/- Hex texts of parts of blocks; texts of matrices. -/
namespace Go.Proofs.YtpomeeakmpbocaaDoor
set_option linter.unusedSimpArgs false
set_option linter.unusedVariables false
set_option maxRecDepth 20000
set_option maxHeartbeats 1000000
open Go.Abs

theorem hexI_at {h : List Blk} {b o n : Nat} {f : Nat → UInt8} {cs : List Value} {r : Bool} (hb : h[b]? = some ⟨cs, r⟩) (hc : ∀ i, i < n → cs[o + i]? = some (B (f i))) (hn : n ≤ 1000000) : AC Tryd.prog 18 [sl b o n 1] h (.string (hxT f n)) h := by
  have hbl := blt hb
  (refine AC_begin (fun _ _ => Tryd.call18 _ _) Tryd.func18 rfl Tryd.ntmps18 Tryd.results18 (fun hwf => ?_); simp only [List.length_cons, List.length_nil, Nat.reduceAdd, Nat.reduceSub, List.replicate, List.cons_append, List.nil_append])
  (repeat (first | ((first | (refine And.intro ?_ ?_; focus exact PLA) | refine WA_seq (WA_region ?_) | refine WA_region ?_ | refine WA_exit ?_); try simp (maxSteps := 1000000) (disch := first | omega | rfl | decide | (simp only [List.length_cons, List.length_nil, List.length_append, Bs_length, Is_length, Vs_length, Bl_length, Il_length] <;> omega)) only [go_sem, Nat.reduceAdd, Int.reduceAdd, Int.reduceSub, Int.reduceMul, Bool.not_true, Bool.not_false]) | refine WA_seq ?_ | refine WA_block ?_ | (refine WA_skip ?_; try simp only [go_sem]) | (refine WA_ret ?_; try simp only [go_sem]) | refine WA_ct rfl ?_ | refine WA_cf rfl ?_))
  refine WA_forP (fun k => [(3, sl h.length 0 (2 * k) 1), (5, J), (6, J), (9, .int .i64 k), (10, J), (11, J), (12, J), (13, J), (14, J), (15, J), (16, J), (17, J), (18, J), (19, J), (20, J), (21, J), (22, J)]) (fun k => [(0, ⟨Bl (hx f k), true⟩)]) (n) ?_ ?_ ?_ <;> (try simp only [patT_cons, patT_nil, patL_cons, patL_nil, list_set_zero, list_set_succ, blk_set_zero, blk_set_succ])
  · (refine Drop_slots (by first | exact Nat.le_refl _ | simp) ?_; focus ((try simp only [JL_same, JL_J, JL_nil, Int.reduceAdd, Nat.sub_sub, Int.natCast_add, Int.natCast_one, Int.natCast_zero, Int.cast_ofNat_Int, Nat.add_zero, Bool.false_eq_true, if_false, if_true, hx]); (try exact JL_refl _)))
  · intro j hk
    have hx1 := tab16 (P := Tryd.prog) (T := 9) (by kernel_rfl) (UInt8.ofNat ((f j).toNat >>> 4)) (by rw [shr16]; have := u8_lt (f j); omega)
    have hx2 := tab16 (P := Tryd.prog) (T := 9) (by kernel_rfl) (f j &&& 15) (by rw [and15]; omega)
    have hsh : abin Tryd.prog .shr 5 (B (f j)) (.int .u64 4) = some (B (UInt8.ofNat ((f j).toNat >>> 4))) := abin_shr_B (f j) .u64 4
    rw [shr16] at hx1
    rw [and15] at hx2
    have hl := hx_len f j
    (repeat (first | ((first | (refine And.intro ?_ ?_; focus exact PLA) | refine WA_seq (WA_region ?_) | refine WA_region ?_ | refine WA_exit ?_); try simp (maxSteps := 1000000) (disch := first | omega | rfl | decide | (simp only [List.length_cons, List.length_nil, List.length_append, Bs_length, Is_length, Vs_length, Bl_length, Il_length] <;> omega)) only [go_sem, Nat.reduceAdd, Int.reduceAdd, Int.reduceSub, Int.reduceMul, Bool.not_true, Bool.not_false, look_old hb, hc j hk, hsh, hx1, hx2, hl, sub2, Bl_hx]) | (refine (WA_rb (id := 5) [7, 8] (SubM.refl _) mixedOk ?_); simp only [List.size_toArray, List.length_cons, List.length_nil]; (repeat (first | ((first | (refine And.intro ?_ ?_; focus exact PLA) | refine RB_take false [0, 1, 2, 3, 4, 5, 6] 3 (by rfl) (by kernel_rfl) (by decide) (by decide +kernel) ?_ | refine RB_exec 7 _ (by rfl) (by decide +kernel) (by decide +kernel) ?_ | refine RB_exec 8 _ (by rfl) (by decide +kernel) (by decide +kernel) ?_ | refine RB_take false [9] 0 (by rfl) (by kernel_rfl) (by decide) (by decide +kernel) ?_ | refine RB_done (by decide +kernel) ?_); try simp (maxSteps := 1000000) (disch := first | omega | rfl | decide | (simp only [List.length_cons, List.length_nil, List.length_append, Bs_length, Is_length, Vs_length, Bl_length, Il_length] <;> omega)) only [go_sem, Nat.reduceAdd, Int.reduceAdd, Int.reduceSub, Int.reduceMul, Bool.not_true, Bool.not_false, look_old hb, hc j hk, hsh, hx1, hx2, hl, sub2, Bl_hx])))) | refine WA_seq ?_ | refine WA_block ?_ | (refine WA_skip ?_; try simp only [go_sem]) | (refine WA_ret ?_; try simp only [go_sem]) | refine WA_ct rfl ?_ | refine WA_cf rfl ?_))
    (refine Drop_gc [2] (by first | exact Nat.le_refl _ | first | assumption | omega | (simp only [List.length_append, List.length_cons, List.length_nil, List.length_replicate]; omega)) (by assumption) (by decide) ?_ ?_; (focus (repeat (first | exact trivial | (refine And.intro ⟨_, rfl, ?_⟩ ?_; (focus first | (refine Fit_plain ?_; simp only [go_sem, List.all_append, List.all_cons, List.all_nil, Bool.and_self]; done) | exact Fit_nil rfl | exact Fit_dead | (refine Fit_eq ?_ ?_; (focus simp only [go_sem, List.all_append, List.all_cons, List.all_nil, Bool.and_self]); (focus (first | rfl | (simp only [Int.natCast_add, Int.natCast_one, Int.natCast_zero, Int.cast_ofNat_Int, Nat.add_zero]; done) | (simp only [Int.natCast_add, Int.natCast_one, Int.natCast_zero, Int.cast_ofNat_Int, Nat.add_zero]; rfl))))))))); (focus (repeat (first | exact JR_nil | refine JR_J ?_ | (refine JR_plain ?_ ?_; (focus first | rfl | (refine plain_agg ?_; simp only [go_sem, List.all_append, List.all_cons, List.all_nil, Bool.and_self]; done))) | ((first | refine JR_pt ?_ ?_ ?_ | refine JR_sl ?_ ?_ ?_); (focus first | (rw [rhoF_new0]; rfl) | (rw [rhoF_new]; rfl) | (rw [rhoF_old]; first | assumption | omega)); (focus first | assumption | omega | (simp only [List.length_append, List.length_cons, List.length_nil, List.length_replicate]; omega))) | (refine JR_plain' ?_ ?_ ?_; (focus first | rfl | (refine plain_agg ?_; simp only [go_sem, List.all_append, List.all_cons, List.all_nil, Bool.and_self]; done)); (focus (first | rfl | (simp only [Int.natCast_add, Int.natCast_one, Int.natCast_zero, Int.cast_ofNat_Int, Nat.add_zero]; done) | (simp only [Int.natCast_add, Int.natCast_one, Int.natCast_zero, Int.cast_ofNat_Int, Nat.add_zero]; rfl)))) | (refine JR_sl' ?_ ?_ ?_ ?_; (focus first | (rw [rhoF_new0]; rfl) | (rw [rhoF_new]; rfl) | (rw [rhoF_old]; first | assumption | omega)); (focus first | assumption | omega | (simp only [List.length_append, List.length_cons, List.length_nil, List.length_replicate]; omega)); (focus first | rfl | omega | (first | rfl | (simp only [Int.natCast_add, Int.natCast_one, Int.natCast_zero, Int.cast_ofNat_Int, Nat.add_zero]; done) | (simp only [Int.natCast_add, Int.natCast_one, Int.natCast_zero, Int.cast_ofNat_Int, Nat.add_zero]; rfl))))))))
  · have hln := hx_len f n
    (repeat (first | ((first | (refine And.intro ?_ ?_; focus exact PLA) | refine WA_seq (WA_region ?_) | refine WA_region ?_ | refine WA_exit ?_); try simp (maxSteps := 1000000) (disch := first | omega | rfl | decide | (simp only [List.length_cons, List.length_nil, List.length_append, Bs_length, Is_length, Vs_length, Bl_length, Il_length] <;> omega)) only [go_sem, Nat.reduceAdd, Int.reduceAdd, Int.reduceSub, Int.reduceMul, Bool.not_true, Bool.not_false]) | refine WA_seq ?_ | refine WA_block ?_ | (refine WA_skip ?_; try simp only [go_sem]) | (refine WA_ret ?_; try simp only [go_sem]) | refine WA_ct rfl ?_ | refine WA_cf rfl ?_))
    ((first | refine ret_nA ?_ | refine ret_sA ?_ | refine ret_fA ?_); simp (maxSteps := 1000000) (disch := first | omega | rfl | decide | (simp only [List.length_cons, List.length_nil, List.length_append, Bs_length, Is_length, Vs_length, Bl_length, Il_length] <;> omega)) only [go_sem, Nat.reduceAdd, Int.reduceAdd, Int.reduceSub, Int.reduceMul, Bool.not_true, Bool.not_false, hxT]; try rfl)

theorem hexS_at {h : List Blk} {b o n : Nat} {f : Nat → UInt8} {cs : List Value} {r : Bool} (hb : h[b]? = some ⟨cs, r⟩) (hc : ∀ i, i < n → cs[o + i]? = some (B (f i))) (hn : n ≤ 1000000) : AC Tryd.prog 25 [sl b o n 1] h (.string (hxT f n)) h := by
  have hbl := blt hb
  (refine AC_begin (fun _ _ => Tryd.call25 _ _) Tryd.func25 rfl Tryd.ntmps25 Tryd.results25 (fun hwf => ?_); simp only [List.length_cons, List.length_nil, Nat.reduceAdd, Nat.reduceSub, List.replicate, List.cons_append, List.nil_append])
  (repeat (first | ((first | (refine And.intro ?_ ?_; focus exact PLA) | refine WA_seq (WA_region ?_) | refine WA_region ?_ | refine WA_exit ?_); try simp (maxSteps := 1000000) (disch := first | omega | rfl | decide | (simp only [List.length_cons, List.length_nil, List.length_append, Bs_length, Is_length, Vs_length, Bl_length, Il_length] <;> omega)) only [go_sem, Nat.reduceAdd, Int.reduceAdd, Int.reduceSub, Int.reduceMul, Bool.not_true, Bool.not_false]) | refine WA_seq ?_ | refine WA_block ?_ | (refine WA_skip ?_; try simp only [go_sem]) | (refine WA_ret ?_; try simp only [go_sem]) | refine WA_ct rfl ?_ | refine WA_cf rfl ?_))
  refine WA_forP (fun k => [(4, sl h.length 0 (2 * k) 1), (5, .int .i64 k), (6, J), (7, J), (8, J), (9, J), (10, J), (11, J), (12, J), (13, J), (14, J), (15, J), (16, J), (17, J), (18, J), (19, J), (20, J), (21, J), (22, J), (23, J), (24, J), (25, J), (26, J), (27, J), (28, J), (29, J)]) (fun k => [(0, ⟨Bl (hx f k), true⟩)]) (n) ?_ ?_ ?_ <;> (try simp only [patT_cons, patT_nil, patL_cons, patL_nil, list_set_zero, list_set_succ, blk_set_zero, blk_set_succ])
  · (refine Drop_slots (by first | exact Nat.le_refl _ | simp) ?_; focus ((try simp only [JL_same, JL_J, JL_nil, Int.reduceAdd, Nat.sub_sub, Int.natCast_add, Int.natCast_one, Int.natCast_zero, Int.cast_ofNat_Int, Nat.add_zero, Bool.false_eq_true, if_false, if_true, hx]); (try exact JL_refl _)))
  · intro j hk
    have hx1 := tab16 (P := Tryd.prog) (T := 9) (by kernel_rfl) (f j / 16) (by rw [hi16]; have := u8_lt (f j); omega)
    have hx2 := tab16 (P := Tryd.prog) (T := 9) (by kernel_rfl) (f j % 16) (by rw [lo16]; omega)
    rw [hi16] at hx1
    rw [lo16] at hx2
    have hl := hx_len f j
    (repeat (first | ((first | (refine And.intro ?_ ?_; focus exact PLA) | refine WA_seq (WA_region ?_) | refine WA_region ?_ | refine WA_exit ?_); try simp (maxSteps := 1000000) (disch := first | omega | rfl | decide | (simp only [List.length_cons, List.length_nil, List.length_append, Bs_length, Is_length, Vs_length, Bl_length, Il_length] <;> omega)) only [go_sem, Nat.reduceAdd, Int.reduceAdd, Int.reduceSub, Int.reduceMul, Bool.not_true, Bool.not_false, look_old hb, hc j hk, hx1, hx2, hl, sub2, Bl_hx]) | (refine (WA_rb (id := 5) [15, 16] (SubM.refl _) mixedOk ?_); simp only [List.size_toArray, List.length_cons, List.length_nil]; (repeat (first | ((first | (refine And.intro ?_ ?_; focus exact PLA) | refine RB_take false [0, 1, 2, 3, 4, 8, 9, 10, 11] 9 (by rfl) (by kernel_rfl) (by decide) (by decide +kernel) ?_ | refine RB_take true [5, 12] 7 (by rfl) (by kernel_rfl) (by decide) (by decide +kernel) ?_ | refine RB_take false [6, 7, 13, 14] 3 (by rfl) (by kernel_rfl) (by decide) (by decide +kernel) ?_ | refine RB_exec 15 _ (by rfl) (by decide +kernel) (by decide +kernel) ?_ | refine RB_exec 16 _ (by rfl) (by decide +kernel) (by decide +kernel) ?_ | refine RB_take false [17] 0 (by rfl) (by kernel_rfl) (by decide) (by decide +kernel) ?_ | refine RB_done (by decide +kernel) ?_); try simp (maxSteps := 1000000) (disch := first | omega | rfl | decide | (simp only [List.length_cons, List.length_nil, List.length_append, Bs_length, Is_length, Vs_length, Bl_length, Il_length] <;> omega)) only [go_sem, Nat.reduceAdd, Int.reduceAdd, Int.reduceSub, Int.reduceMul, Bool.not_true, Bool.not_false, look_old hb, hc j hk, hx1, hx2, hl, sub2, Bl_hx])))) | refine WA_seq ?_ | refine WA_block ?_ | (refine WA_skip ?_; try simp only [go_sem]) | (refine WA_ret ?_; try simp only [go_sem]) | refine WA_ct rfl ?_ | refine WA_cf rfl ?_))
    (refine Drop_gc [2] (by first | exact Nat.le_refl _ | first | assumption | omega | (simp only [List.length_append, List.length_cons, List.length_nil, List.length_replicate]; omega)) (by assumption) (by decide) ?_ ?_; (focus (repeat (first | exact trivial | (refine And.intro ⟨_, rfl, ?_⟩ ?_; (focus first | (refine Fit_plain ?_; simp only [go_sem, List.all_append, List.all_cons, List.all_nil, Bool.and_self]; done) | exact Fit_nil rfl | exact Fit_dead | (refine Fit_eq ?_ ?_; (focus simp only [go_sem, List.all_append, List.all_cons, List.all_nil, Bool.and_self]); (focus (first | rfl | (simp only [Int.natCast_add, Int.natCast_one, Int.natCast_zero, Int.cast_ofNat_Int, Nat.add_zero]; done) | (simp only [Int.natCast_add, Int.natCast_one, Int.natCast_zero, Int.cast_ofNat_Int, Nat.add_zero]; rfl))))))))); (focus (repeat (first | exact JR_nil | refine JR_J ?_ | (refine JR_plain ?_ ?_; (focus first | rfl | (refine plain_agg ?_; simp only [go_sem, List.all_append, List.all_cons, List.all_nil, Bool.and_self]; done))) | ((first | refine JR_pt ?_ ?_ ?_ | refine JR_sl ?_ ?_ ?_); (focus first | (rw [rhoF_new0]; rfl) | (rw [rhoF_new]; rfl) | (rw [rhoF_old]; first | assumption | omega)); (focus first | assumption | omega | (simp only [List.length_append, List.length_cons, List.length_nil, List.length_replicate]; omega))) | (refine JR_plain' ?_ ?_ ?_; (focus first | rfl | (refine plain_agg ?_; simp only [go_sem, List.all_append, List.all_cons, List.all_nil, Bool.and_self]; done)); (focus (first | rfl | (simp only [Int.natCast_add, Int.natCast_one, Int.natCast_zero, Int.cast_ofNat_Int, Nat.add_zero]; done) | (simp only [Int.natCast_add, Int.natCast_one, Int.natCast_zero, Int.cast_ofNat_Int, Nat.add_zero]; rfl)))) | (refine JR_sl' ?_ ?_ ?_ ?_; (focus first | (rw [rhoF_new0]; rfl) | (rw [rhoF_new]; rfl) | (rw [rhoF_old]; first | assumption | omega)); (focus first | assumption | omega | (simp only [List.length_append, List.length_cons, List.length_nil, List.length_replicate]; omega)); (focus first | rfl | omega | (first | rfl | (simp only [Int.natCast_add, Int.natCast_one, Int.natCast_zero, Int.cast_ofNat_Int, Nat.add_zero]; done) | (simp only [Int.natCast_add, Int.natCast_one, Int.natCast_zero, Int.cast_ofNat_Int, Nat.add_zero]; rfl))))))))
  · have hln := hx_len f n
    (repeat (first | ((first | (refine And.intro ?_ ?_; focus exact PLA) | refine WA_seq (WA_region ?_) | refine WA_region ?_ | refine WA_exit ?_); try simp (maxSteps := 1000000) (disch := first | omega | rfl | decide | (simp only [List.length_cons, List.length_nil, List.length_append, Bs_length, Is_length, Vs_length, Bl_length, Il_length] <;> omega)) only [go_sem, Nat.reduceAdd, Int.reduceAdd, Int.reduceSub, Int.reduceMul, Bool.not_true, Bool.not_false]) | refine WA_seq ?_ | refine WA_block ?_ | (refine WA_skip ?_; try simp only [go_sem]) | (refine WA_ret ?_; try simp only [go_sem]) | refine WA_ct rfl ?_ | refine WA_cf rfl ?_))
    ((first | refine ret_nA ?_ | refine ret_sA ?_ | refine ret_fA ?_); simp (maxSteps := 1000000) (disch := first | omega | rfl | decide | (simp only [List.length_cons, List.length_nil, List.length_append, Bs_length, Is_length, Vs_length, Bl_length, Il_length] <;> omega)) only [go_sem, Nat.reduceAdd, Int.reduceAdd, Int.reduceSub, Int.reduceMul, Bool.not_true, Bool.not_false, hxT]; try rfl)

theorem Bs_rows (a : Nat → UInt8) (k : Nat) : Bs (k * 4) a ++ Bs 4 (fun t => a (k * 4 + t)) = Bs ((k + 1) * 4) a := by
  apply List.ext_getElem?
  intro i
  by_cases h : i < k * 4
  · rw [List.getElem?_append_left (by rw [Bs_length]; exact h), Bs_get h, Bs_get (by omega)]
  · rw [List.getElem?_append_right (by rw [Bs_length]; omega), Bs_length]
    by_cases h2 : i < (k + 1) * 4
    · rw [Bs_get (show i - k * 4 < 4 by omega), Bs_get h2, show k * 4 + (i - k * 4) = i by omega]
    · rw [List.getElem?_eq_none (by rw [Bs_length]; omega), List.getElem?_eq_none (by rw [Bs_length]; omega)]
theorem rows0_ac (a : Nat → UInt8) (h : List Blk) : AC Tryd.prog 26 [.agg (Bs 16 a).toArray] h (sl (h.length + 1) 0 16 1) (h ++ [⟨Bs 16 a, true⟩, ⟨Bs 16 a, true⟩]) := by
  (refine AC_begin (fun _ _ => Tryd.call26 _ _) Tryd.func26 rfl Tryd.ntmps26 Tryd.results26 (fun hwf => ?_); simp only [List.length_cons, List.length_nil, Nat.reduceAdd, Nat.reduceSub, List.replicate, List.cons_append, List.nil_append])
  (repeat (first | ((first | (refine And.intro ?_ ?_; focus exact PLA) | refine WA_seq (WA_region ?_) | refine WA_region ?_ | refine WA_exit ?_); try simp (maxSteps := 1000000) (disch := first | omega | rfl | decide | (simp only [List.length_cons, List.length_nil, List.length_append, Bs_length, Is_length, Vs_length, Bl_length, Il_length] <;> omega)) only [go_sem, Nat.reduceAdd, Int.reduceAdd, Int.reduceSub, Int.reduceMul, Bool.not_true, Bool.not_false]) | refine WA_seq ?_ | refine WA_block ?_ | (refine WA_skip ?_; try simp only [go_sem]) | (refine WA_ret ?_; try simp only [go_sem]) | refine WA_ct rfl ?_ | refine WA_cf rfl ?_))
  refine WA_forP (fun k => [(3, sl (h.length + 1) 0 (k * 4) 1), (4, .int .i64 k), (5, J), (6, J), (7, J), (8, J), (9, J), (10, J), (11, J), (12, J), (13, J), (14, J)]) (fun k => [(1, ⟨Bs (k * 4) a, true⟩)]) (4) ?_ ?_ ?_ <;> (try simp only [patT_cons, patT_nil, patL_cons, patL_nil, list_set_zero, list_set_succ, blk_set_zero, blk_set_succ])
  · rw [Nat.zero_mul]
    (refine Drop_slots (by first | exact Nat.le_refl _ | simp) ?_; focus ((try simp only [JL_same, JL_J, JL_nil, Int.reduceAdd, Nat.sub_sub, Int.natCast_add, Int.natCast_one, Int.natCast_zero, Int.cast_ofNat_Int, Nat.add_zero, Bool.false_eq_true, if_false, if_true]); (try exact JL_refl _)))
  · intro k hk
    (repeat (first | ((first | (refine And.intro ?_ ?_; focus exact PLA) | refine WA_seq (WA_region ?_) | refine WA_region ?_ | refine WA_exit ?_); try simp (maxSteps := 1000000) (disch := first | omega | rfl | decide | (simp only [List.length_cons, List.length_nil, List.length_append, Bs_length, Is_length, Vs_length, Bl_length, Il_length] <;> omega)) only [go_sem, Nat.reduceAdd, Int.reduceAdd, Int.reduceSub, Int.reduceMul, Bool.not_true, Bool.not_false, Bs_sub (show k * 4 + 4 ≤ 16 by omega), Bs_rows]) | refine WA_seq ?_ | refine WA_block ?_ | (refine WA_skip ?_; try simp only [go_sem]) | (refine WA_ret ?_; try simp only [go_sem]) | refine WA_ct rfl ?_ | refine WA_cf rfl ?_))
    rw [show k * 4 + 4 = (k + 1) * 4 by omega]
    (refine Drop_gc [0, 2] (by first | exact Nat.le_refl _ | first | assumption | omega | (simp only [List.length_append, List.length_cons, List.length_nil, List.length_replicate]; omega)) (by assumption) (by decide) ?_ ?_; (focus (repeat (first | exact trivial | (refine And.intro ⟨_, rfl, ?_⟩ ?_; (focus first | (refine Fit_plain ?_; simp only [go_sem, List.all_append, List.all_cons, List.all_nil, Bool.and_self]; done) | exact Fit_nil rfl | exact Fit_dead | (refine Fit_eq ?_ ?_; (focus simp only [go_sem, List.all_append, List.all_cons, List.all_nil, Bool.and_self]); (focus (first | rfl | (simp only [Int.natCast_add, Int.natCast_one, Int.natCast_zero, Int.cast_ofNat_Int, Nat.add_zero]; done) | (simp only [Int.natCast_add, Int.natCast_one, Int.natCast_zero, Int.cast_ofNat_Int, Nat.add_zero]; rfl))))))))); (focus (repeat (first | exact JR_nil | refine JR_J ?_ | (refine JR_plain ?_ ?_; (focus first | rfl | (refine plain_agg ?_; simp only [go_sem, List.all_append, List.all_cons, List.all_nil, Bool.and_self]; done))) | ((first | refine JR_pt ?_ ?_ ?_ | refine JR_sl ?_ ?_ ?_); (focus first | (rw [rhoF_new0]; rfl) | (rw [rhoF_new]; rfl) | (rw [rhoF_old]; first | assumption | omega)); (focus first | assumption | omega | (simp only [List.length_append, List.length_cons, List.length_nil, List.length_replicate]; omega))) | (refine JR_plain' ?_ ?_ ?_; (focus first | rfl | (refine plain_agg ?_; simp only [go_sem, List.all_append, List.all_cons, List.all_nil, Bool.and_self]; done)); (focus (first | rfl | (simp only [Int.natCast_add, Int.natCast_one, Int.natCast_zero, Int.cast_ofNat_Int, Nat.add_zero]; done) | (simp only [Int.natCast_add, Int.natCast_one, Int.natCast_zero, Int.cast_ofNat_Int, Nat.add_zero]; rfl)))) | (refine JR_sl' ?_ ?_ ?_ ?_; (focus first | (rw [rhoF_new0]; rfl) | (rw [rhoF_new]; rfl) | (rw [rhoF_old]; first | assumption | omega)); (focus first | assumption | omega | (simp only [List.length_append, List.length_cons, List.length_nil, List.length_replicate]; omega)); (focus first | rfl | omega | (first | rfl | (simp only [Int.natCast_add, Int.natCast_one, Int.natCast_zero, Int.cast_ofNat_Int, Nat.add_zero]; done) | (simp only [Int.natCast_add, Int.natCast_one, Int.natCast_zero, Int.cast_ofNat_Int, Nat.add_zero]; rfl))))))))
  · (repeat (first | ((first | (refine And.intro ?_ ?_; focus exact PLA) | refine WA_seq (WA_region ?_) | refine WA_region ?_ | refine WA_exit ?_); try simp (maxSteps := 1000000) (disch := first | omega | rfl | decide | (simp only [List.length_cons, List.length_nil, List.length_append, Bs_length, Is_length, Vs_length, Bl_length, Il_length] <;> omega)) only [go_sem, Nat.reduceAdd, Int.reduceAdd, Int.reduceSub, Int.reduceMul, Bool.not_true, Bool.not_false]) | refine WA_seq ?_ | refine WA_block ?_ | (refine WA_skip ?_; try simp only [go_sem]) | (refine WA_ret ?_; try simp only [go_sem]) | refine WA_ct rfl ?_ | refine WA_cf rfl ?_))
    ((first | refine ret_nA ?_ | refine ret_sA ?_ | refine ret_fA ?_); simp (maxSteps := 1000000) (disch := first | omega | rfl | decide | (simp only [List.length_cons, List.length_nil, List.length_append, Bs_length, Is_length, Vs_length, Bl_length, Il_length] <;> omega)) only [go_sem, Nat.reduceAdd, Int.reduceAdd, Int.reduceSub, Int.reduceMul, Bool.not_true, Bool.not_false]; try rfl)
theorem rows_ac (a : Nat → UInt8) (h : List Blk) : AC Tryd.prog 26 [.agg (Bs 16 a).toArray] h (sl h.length 0 16 1) (h ++ [⟨Bs 16 a, true⟩]) := by
  (refine AC_gc [1] (rows0_ac a h) (by decide) ?_ ?_ ?_; (focus (repeat (first | exact trivial | (refine And.intro ⟨_, rfl, ?_⟩ ?_; (focus first | (refine Fit_plain ?_; simp only [go_sem, List.all_append, List.all_cons, List.all_nil, Bool.and_self]; done) | exact Fit_nil rfl | exact Fit_dead | (refine Fit_eq ?_ ?_; (focus simp only [go_sem, List.all_append, List.all_cons, List.all_nil, Bool.and_self]); (focus (first | rfl | (simp only [Int.natCast_add, Int.natCast_one, Int.natCast_zero, Int.cast_ofNat_Int, Nat.add_zero]; done) | (simp only [Int.natCast_add, Int.natCast_one, Int.natCast_zero, Int.cast_ofNat_Int, Nat.add_zero]; rfl))))))))); (focus first | (refine renV_sl ?_; first | (rw [rhoF_new0]; rfl) | (rw [rhoF_new]; rfl) | (rw [rhoF_old]; first | assumption | omega)) | (refine renV_pt ?_; first | (rw [rhoF_new0]; rfl) | (rw [rhoF_new]; rfl) | (rw [rhoF_old]; first | assumption | omega)) | (refine renV_two ?_ ?_; (focus first | (refine ren1_sl ?_; first | (rw [rhoF_new0]; rfl) | (rw [rhoF_new]; rfl) | (rw [rhoF_old]; first | assumption | omega)) | rfl); (focus rfl)) | rfl | (refine (renV_plain ?_).symm; first | rfl | (refine plain_agg ?_; simp only [go_sem, List.all_append, List.all_cons, List.all_nil, Bool.and_self]; done))); (focus first | (simp only [wfV, wf1, wfC, List.length_append, List.length_cons, List.length_nil]; omega) | (refine wfV_two ?_ ?_; (focus simp only [wf1, wfC, List.length_append, List.length_cons, List.length_nil]; omega); (focus trivial)) | (refine plainV_wf ?_; (focus first | rfl | (refine plain_agg ?_; simp only [go_sem, List.all_append, List.all_cons, List.all_nil, Bool.and_self]; done)); done)))

theorem mtT_ac (a : Nat → UInt8) (h : List Blk) : AC Tryd.prog 14 [.agg (Bs 16 a).toArray] h (.string (mtT a)) h := by
  have hsz : (joinB (mtL a 4) ⟨#[47]⟩).size ≤ 140737488355328 := by
    have := mtT_size a
    unfold mtT at this
    rw [this]; omega
  have hlen : (mtL a 4).length = 4 := mtL_len a 4
  (refine AC_begin (fun _ _ => Tryd.call14 _ _) Tryd.func14 rfl Tryd.ntmps14 Tryd.results14 (fun hwf => ?_); simp only [List.length_cons, List.length_nil, Nat.reduceAdd, Nat.reduceSub, List.replicate, List.cons_append, List.nil_append])
  (repeat (first | ((first | (refine And.intro ?_ ?_; focus exact PLA) | refine WA_seq (WA_region ?_) | refine WA_region ?_ | refine WA_exit ?_); try simp (maxSteps := 1000000) (disch := first | omega | rfl | decide | (simp only [List.length_cons, List.length_nil, List.length_append, Bs_length, Is_length, Vs_length, Bl_length, Il_length] <;> omega)) only [go_sem, Nat.reduceAdd, Int.reduceAdd, Int.reduceSub, Int.reduceMul, Bool.not_true, Bool.not_false]) | refine WA_seq ?_ | refine WA_block ?_ | (refine WA_skip ?_; try simp only [go_sem]) | (refine WA_ret ?_; try simp only [go_sem]) | refine WA_ct rfl ?_ | refine WA_cf rfl ?_))
  refine WA_forP (fun k => [(3, sl (h.length + 1) 0 k 1), (5, J), (6, J), (8, .int .i64 k), (9, J), (10, J), (11, J), (12, J), (13, J), (14, J), (15, J), (16, J)]) (fun k => [(1, ⟨Ss (mtL a k), true⟩)]) (4) ?_ ?_ ?_ <;> (try simp only [patT_cons, patT_nil, patL_cons, patL_nil, list_set_zero, list_set_succ, blk_set_zero, blk_set_succ])
  · rw [mtL_zero, Ss_nil]
    (refine Drop_slots (by first | exact Nat.le_refl _ | simp) ?_; focus ((try simp only [JL_same, JL_J, JL_nil, Int.reduceAdd, Nat.sub_sub, Int.natCast_add, Int.natCast_one, Int.natCast_zero, Int.cast_ofNat_Int, Nat.add_zero, Bool.false_eq_true, if_false, if_true]); (try exact JL_refl _)))
  · intro k hk
    have hl := mtL_len a k
    have hgr : ∀ (H : List Blk) (b : Nat) (news : List Value), growR H b (some ⟨Ss (mtL a k), true⟩) k 1 16 1 news = some (sl H.length 0 (k + 1) 1, H.set b dead ++ [⟨Ss (mtL a k) ++ news, true⟩]) := fun H b news => by
      have := growR_Ss (h := H) (b := b) (by' := 16) (m := 1) (L := mtL a k) (news := news) (by rw [hl]; omega)
      rw [hl] at this; exact this
    (repeat (first | ((first | (refine And.intro ?_ ?_; focus exact PLA) | ((first | with_reducible apply callB_i | with_reducible apply callK_intro | with_reducible apply callQ_i); (focus (first | assumption | (with_reducible apply hexI_ac <;> (first | assumption | (refine look_old ?_ _; assumption) | rfl | (simp (disch := omega) only [go_sem]; first | done | rfl) | omega | decide | (simp; done))))); (try exact WP_au)) | refine WA_seq (WA_region ?_) | refine WA_region ?_ | refine WA_exit ?_); try simp (maxSteps := 1000000) (disch := first | omega | rfl | decide | (simp only [List.length_cons, List.length_nil, List.length_append, Bs_length, Is_length, Vs_length, Bl_length, Il_length] <;> omega)) only [go_sem, Nat.reduceAdd, Int.reduceAdd, Int.reduceSub, Int.reduceMul, Bool.not_true, Bool.not_false, hgr, lit1S, sub1, Ss_snoc, mtL_snoc]) | refine WA_seq ?_ | refine WA_block ?_ | (refine WA_skip ?_; try simp only [go_sem]) | (refine WA_ret ?_; try simp only [go_sem]) | refine WA_ct rfl ?_ | refine WA_cf rfl ?_))
    (refine Drop_gc [0, 4] (by first | exact Nat.le_refl _ | first | assumption | omega | (simp only [List.length_append, List.length_cons, List.length_nil, List.length_replicate]; omega)) (by assumption) (by decide) ?_ ?_; (focus (repeat (first | exact trivial | (refine And.intro ⟨_, rfl, ?_⟩ ?_; (focus first | (refine Fit_plain ?_; simp only [go_sem, List.all_append, List.all_cons, List.all_nil, Bool.and_self]; done) | exact Fit_nil rfl | exact Fit_dead | (refine Fit_eq ?_ ?_; (focus simp only [go_sem, List.all_append, List.all_cons, List.all_nil, Bool.and_self]); (focus (first | rfl | (simp only [Int.natCast_add, Int.natCast_one, Int.natCast_zero, Int.cast_ofNat_Int, Nat.add_zero]; done) | (simp only [Int.natCast_add, Int.natCast_one, Int.natCast_zero, Int.cast_ofNat_Int, Nat.add_zero]; rfl))))))))); (focus (repeat (first | exact JR_nil | refine JR_J ?_ | (refine JR_plain ?_ ?_; (focus first | rfl | (refine plain_agg ?_; simp only [go_sem, List.all_append, List.all_cons, List.all_nil, Bool.and_self]; done))) | ((first | refine JR_pt ?_ ?_ ?_ | refine JR_sl ?_ ?_ ?_); (focus first | (rw [rhoF_new0]; rfl) | (rw [rhoF_new]; rfl) | (rw [rhoF_old]; first | assumption | omega)); (focus first | assumption | omega | (simp only [List.length_append, List.length_cons, List.length_nil, List.length_replicate]; omega))) | (refine JR_plain' ?_ ?_ ?_; (focus first | rfl | (refine plain_agg ?_; simp only [go_sem, List.all_append, List.all_cons, List.all_nil, Bool.and_self]; done)); (focus (first | rfl | (simp only [Int.natCast_add, Int.natCast_one, Int.natCast_zero, Int.cast_ofNat_Int, Nat.add_zero]; done) | (simp only [Int.natCast_add, Int.natCast_one, Int.natCast_zero, Int.cast_ofNat_Int, Nat.add_zero]; rfl)))) | (refine JR_sl' ?_ ?_ ?_ ?_; (focus first | (rw [rhoF_new0]; rfl) | (rw [rhoF_new]; rfl) | (rw [rhoF_old]; first | assumption | omega)); (focus first | assumption | omega | (simp only [List.length_append, List.length_cons, List.length_nil, List.length_replicate]; omega)); (focus first | rfl | omega | (first | rfl | (simp only [Int.natCast_add, Int.natCast_one, Int.natCast_zero, Int.cast_ofNat_Int, Nat.add_zero]; done) | (simp only [Int.natCast_add, Int.natCast_one, Int.natCast_zero, Int.cast_ofNat_Int, Nat.add_zero]; rfl))))))))
  · have hj : ∀ H : List Blk, H[h.length + 1]? = some ⟨Ss (mtL a 4), true⟩ → AC Tryd.prog 15 [sl (h.length + 1) 0 4 1, .string ⟨#[47]⟩] H (.string (mtT a)) H := fun H hb => by
      have := join_ac hb (by omega) (by omega) ⟨#[47]⟩ hsz
      rw [hlen] at this; exact this
    (repeat (first | ((first | (refine And.intro ?_ ?_; focus exact PLA) | ((first | with_reducible apply callB_i | with_reducible apply callK_intro | with_reducible apply callQ_i); (focus (first | assumption | (with_reducible apply hj <;> (first | assumption | rfl | (simp (disch := omega) only [go_sem]; first | done | rfl) | omega | decide | (simp; done))))); (try exact WP_au)) | refine WA_seq (WA_region ?_) | refine WA_region ?_ | refine WA_exit ?_); try simp (maxSteps := 1000000) (disch := first | omega | rfl | decide | (simp only [List.length_cons, List.length_nil, List.length_append, Bs_length, Is_length, Vs_length, Bl_length, Il_length] <;> omega)) only [go_sem, Nat.reduceAdd, Int.reduceAdd, Int.reduceSub, Int.reduceMul, Bool.not_true, Bool.not_false]) | refine WA_seq ?_ | refine WA_block ?_ | (refine WA_skip ?_; try simp only [go_sem]) | (refine WA_ret ?_; try simp only [go_sem]) | refine WA_ct rfl ?_ | refine WA_cf rfl ?_))
    ((first | refine ret_nA ?_ | refine ret_sA ?_ | refine ret_fA ?_); simp (maxSteps := 1000000) (disch := first | omega | rfl | decide | (simp only [List.length_cons, List.length_nil, List.length_append, Bs_length, Is_length, Vs_length, Bl_length, Il_length] <;> omega)) only [go_sem, Nat.reduceAdd, Int.reduceAdd, Int.reduceSub, Int.reduceMul, Bool.not_true, Bool.not_false]; try rfl)

end Go.Proofs.YtpomeeakmpbocaaDoor
