/- A part of the proof of FnTrails. -/
import Derived.Test.YtenkjbkcdcionaaGreatQTLH
import Derived.Test.YtenkjbkcdcionaaGreatQTL0
import Derived.Test.YtenkjbkcdcionaaGreatQTL1
import Derived.Test.YtenkjbkcdcionaaGreatQTL2
/- Inverses of permutations, tables of products, engines. -/
namespace Go.Proofs.YtenkjbkcdcionaaGreat
set_option linter.unusedSimpArgs false
set_option linter.unusedVariables false
set_option maxRecDepth 20000
set_option maxHeartbeats 1000000
open Go.Abs

def invP (f : Nat → UInt8) : Nat → Nat → UInt8
  | 0 => fun _ => 0
  | k + 1 => upd (invP f k) (f k).toNat (UInt8.ofNat k)
theorem invP_zero (f : Nat → UInt8) : invP f 0 = fun _ => 0 := rfl
theorem invP_set (f : Nat → UInt8) (k : Nat) : upd (invP f k) (f k).toNat (UInt8.ofNat k) = invP f (k + 1) := rfl

theorem invBoxI_ac (f : Nat → UInt8) (h : List Blk) : AC Tryz.prog 68 [.agg (Bs 256 f).toArray] h (.agg (Bs 256 (invP f 256)).toArray) h := by
  (refine AC_begin (fun _ _ => Tryz.call68 _ _) Tryz.func68 rfl Tryz.ntmps68 Tryz.results68 (fun hwf => ?_); simp only [LCN, Nat.reduceAdd, Nat.reduceSub, List.replicate])
  (refine sN0 ?_)
  refine WA_forP (fun k => [(4, J), (5, J), (8, .int .i64 k), (9, J), (10, J), (11, J), (12, J), (13, J), (14, J), (15, J), (16, J)]) (fun k => [(2, ⟨Bs 256 (invP f k), true⟩)]) (256) ?_ ?_ ?_ <;> (try simp only [PTS])
  · rw [invP_zero]
    (exact sS0)
  · intro i hi
    have hf := u8_lt (f i)
    (refine sN @invP_set ?_)
    (exact sS0)
  · (refine sN0 ?_)
    (exact sR0)

theorem turnPS_ac {f : Nat → UInt8} (hp : plOk f = true) (h : List Blk) : AC Tryz.prog 116 [.agg (Bs 16 f).toArray] h (.agg (Bs 16 (invP f 16)).toArray) h := by
  (refine AC_begin (fun _ _ => Tryz.call116 _ _) Tryz.func116 rfl Tryz.ntmps116 Tryz.results116 (fun hwf => ?_); simp only [LCN, Nat.reduceAdd, Nat.reduceSub, List.replicate])
  (refine sN0 ?_)
  refine WA_forP (fun k => [(4, .int .i64 k), (6, J), (7, J), (8, J), (9, J), (10, J), (11, J), (12, J), (13, J), (14, J), (15, J)]) (fun k => [(2, ⟨Bs 16 (invP f k), true⟩)]) (16) ?_ ?_ ?_ <;> (try simp only [PTS])
  · rw [invP_zero]
    (exact sS0)
  · intro i hi
    have hf := plOk_lt hp hi
    (refine sN @invP_set ?_)
    (exact sS0)
  · (refine sN0 ?_)
    (exact sR0)

theorem turnPI_ac {f : Nat → UInt8} (hp : plOk f = true) (h : List Blk) : AC Tryz.prog 69 [.agg (Bs 16 f).toArray] h (.agg (Bs 16 (invP f 16)).toArray) h := by
  (refine AC_begin (fun _ _ => Tryz.call69 _ _) Tryz.func69 rfl Tryz.ntmps69 Tryz.results69 (fun hwf => ?_); simp only [LCN, Nat.reduceAdd, Nat.reduceSub, List.replicate])
  (refine sN0 ?_)
  refine WA_forP (fun k => [(4, J), (5, J), (8, .int .i64 k), (9, J), (10, J), (11, J), (12, J), (13, J), (14, J), (15, J), (16, J)]) (fun k => [(2, ⟨Bs 16 (invP f k), true⟩)]) (16) ?_ ?_ ?_ <;> (try simp only [PTS])
  · rw [invP_zero]
    (exact sS0)
  · intro i hi
    have hf := plOk_lt hp hi
    (refine sN @invP_set ?_)
    (exact sS0)
  · (refine sN0 ?_)
    (exact sR0)

def movF (p b : Nat → UInt8) : Nat → UInt8 := fun i => b (p i).toNat
theorem invP_lt (f : Nat → UInt8) : ∀ k, k ≤ 16 → ∀ i, (invP f k i).toNat < 16
  | 0, _, i => by show (0 : UInt8).toNat < 16; decide
  | k + 1, hk, i => by
    unfold invP upd
    split
    · rw [u8_ofNat_toNat (by omega)]; omega
    · exact invP_lt f k (by omega) i

theorem moveS_ac {p : Nat → UInt8} (hp : ∀ i, i < 16 → (p i).toNat < 16) (b : Nat → UInt8) (h : List Blk) : AC Tryz.prog 89 [.agg (Bs 16 p).toArray, .agg (Bs 16 b).toArray] h (.agg (Bs 16 (movF p b)).toArray) h := by
  (refine AC_begin (fun _ _ => Tryz.call89 _ _) Tryz.func89 rfl Tryz.ntmps89 Tryz.results89 (fun hwf => ?_); simp only [LCN, Nat.reduceAdd, Nat.reduceSub, List.replicate])
  (refine sN0 ?_)
  refine WA_forP (fun k => [(6, .int .i64 k), (8, J), (9, J), (10, J), (11, J), (12, J), (13, J), (14, J), (15, J), (16, J), (17, J), (18, J)]) (fun k => [(3, ⟨Bs 16 (pre k (movF p b) fun _ => 0), true⟩)]) (16) ?_ ?_ ?_ <;> (try simp only [PTS])
  · rw [pre_zero]
    (exact sS0)
  · intro i hi
    have hf := hp i hi
    (refine sN (And.intro (show b (p i).toNat = movF p b i from rfl) @upd_pre) ?_)
    (exact sS0)
  · (refine sN0 ?_)
    (exact sR @Bs_pre)

theorem moveI_ac {p : Nat → UInt8} (hp : ∀ i, i < 16 → (p i).toNat < 16) (b : Nat → UInt8) (h : List Blk) : AC Tryz.prog 86 [.agg (Bs 16 p).toArray, .agg (Bs 16 b).toArray] h (.agg (Bs 16 (movF p b)).toArray) h := by
  (refine AC_begin (fun _ _ => Tryz.call86 _ _) Tryz.func86 rfl Tryz.ntmps86 Tryz.results86 (fun hwf => ?_); simp only [LCN, Nat.reduceAdd, Nat.reduceSub, List.replicate])
  (refine sN0 ?_)
  refine WA_forP (fun k => [(6, J), (7, J), (10, .int .i64 k), (11, J), (12, J), (13, J), (14, J), (15, J), (16, J), (17, J), (18, J), (19, J)]) (fun k => [(3, ⟨Bs 16 (pre k (movF p b) fun _ => 0), true⟩)]) (16) ?_ ?_ ?_ <;> (try simp only [PTS])
  · rw [pre_zero]
    (exact sS0)
  · intro i hi
    have hf := hp i hi
    (refine sN (And.intro (show b (p i).toNat = movF p b i from rfl) @upd_pre) ?_)
    (exact sS0)
  · (refine sN0 ?_)
    (exact sR @Bs_pre)

theorem backPS_ac {p : Nat → UInt8} (hp : plOk p = true) (b : Nat → UInt8) (h : List Blk) : AC Tryz.prog 100 [.agg (Bs 16 p).toArray, .agg (Bs 16 b).toArray] h (.agg (Bs 16 (movF (invP p 16) b)).toArray) h := by
  have hi : ∀ i, i < 16 → (invP p 16 i).toNat < 16 := fun i _ => invP_lt p 16 (by omega) i
  (refine AC_begin (fun _ _ => Tryz.call100 _ _) Tryz.func100 rfl Tryz.ntmps100 Tryz.results100 (fun hwf => ?_); simp only [LCN, Nat.reduceAdd, Nat.reduceSub, List.replicate])
  (repeat (first | ((first | (refine And.intro ?_ ?_; focus exact PLA) | ((first | with_reducible apply callB_i | with_reducible apply callK_intro | with_reducible apply callQ_i); (focus (first | assumption | ((first | with_reducible apply turnPS_ac hp | with_reducible apply moveS_ac hi) <;> (first | assumption | rfl | (simp (disch := omega) only [go_sem]; first | done | rfl) | omega | decide | (simp; done))))); (try exact WP_au)) | refine WA_seq (WA_region ?_) | refine WA_region ?_ | refine WA_exit ?_); try simp (maxSteps := 1000000) (disch := first | omega | rfl | decide | (simp only [LX] <;> omega)) only [go_sem, Nat.reduceAdd, Int.reduceAdd, Int.reduceSub, Int.reduceMul, BNS]) | (refine (WA_rb (id := 1) [4] (SubM.refl _) mixedOk ?_); simp only [LSZ]; (repeat (first | ((first | (refine And.intro ?_ ?_; focus exact PLA) | ((first | with_reducible apply callB_i | with_reducible apply callK_intro | with_reducible apply callQ_i); (focus (first | assumption | ((first | with_reducible apply turnPS_ac hp | with_reducible apply moveS_ac hi) <;> (first | assumption | rfl | (simp (disch := omega) only [go_sem]; first | done | rfl) | omega | decide | (simp; done))))); (try exact WP_au)) | refine RTk true [0, 1, 2, 3] 1 ?_ | refine REx 4 ?_ | refine RB_done (by decide +kernel) ?_); try simp (maxSteps := 1000000) (disch := first | omega | rfl | decide | (simp only [LX] <;> omega)) only [go_sem, Nat.reduceAdd, Int.reduceAdd, Int.reduceSub, Int.reduceMul, BNS])))) | refine WA_seq ?_ | refine WA_block ?_ | (refine WA_skip ?_; try simp only [go_sem]) | (refine WA_ret ?_; try simp only [go_sem]) | refine WA_ct rfl ?_ | refine WA_cf rfl ?_))
  (exact sR0)

def mixT (m : Nat) (a : Nat → UInt8) : Nat → UInt8 := fun n => tm m (a (n / 256)) (UInt8.ofNat (n % 256))
theorem mixT_at (m : Nat) (a : Nat → UInt8) (q : Nat) (x : UInt8) : mixT m a (q * 256 + x.toNat) = tm m (a q) x := by
  have := u8_lt x
  unfold mixT
  rw [show (q * 256 + x.toNat) / 256 = q by omega, show (q * 256 + x.toNat) % 256 = x.toNat by omega, UInt8.ofNat_toNat]
def pw (k : Nat) : Nat := 2 ^ k
theorem pw_zero : pw 0 = 1 := rfl
theorem pw_succ (k : Nat) : pw k * 2 = pw (k + 1) := by unfold pw; rw [Nat.pow_succ]
theorem pw_lt {k : Nat} (h : k < 8) : 1 ≤ pw k ∧ pw k ≤ 128 := ⟨Nat.two_pow_pos k, show 2 ^ k ≤ 2 ^ 7 from Nat.pow_le_pow_right (by omega) (by omega)⟩
theorem pw_or {k l : Nat} (h : l < pw k) : pw k ||| l = pw k + l := pow_or h
theorem mixT_add {m : Nat} (a : Nat → UInt8) {q k l : Nat} (hk : k < 8) (hl : l < pw k) : tm m (a q) (UInt8.ofNat (pw k)) ^^^ mixT m a (q * 256 + l) = mixT m a (q * 256 + (pw k + l)) := by
  have := pw_lt hk
  unfold mixT
  rw [show (q * 256 + l) / 256 = q by omega, show (q * 256 + l) % 256 = l by omega, show (q * 256 + (pw k + l)) / 256 = q by omega, show (q * 256 + (pw k + l)) % 256 = pw k + l by omega, ← tm_xor, ← ofNat_xor]
  congr 2
  exact pow_xor hl
theorem mix_start (m : Nat) (a : Nat → UInt8) (q : Nat) : pre (q * 256 + pw 0) (mixT m a) (fun _ => 0) = pre (q * 256) (mixT m a) fun _ => 0 := by
  funext i
  unfold pre
  rw [pw_zero]
  by_cases h : i < q * 256
  · rw [if_pos h, if_pos (by omega)]
  · rw [if_neg h]
    by_cases h2 : i < q * 256 + 1
    · rw [if_pos h2, show i = q * 256 by omega]
      unfold mixT
      rw [show q * 256 % 256 = 0 by omega]
      exact tm_zeroR m _
    · rw [if_neg h2]

theorem newMixer0_ac {m : Nat} (h0 : 256 ≤ m) (h1 : m < 512) (a : Nat → UInt8) (h : List Blk) : AC Tryz.prog 70 [.int .i64 m, .agg (Bs 16 a).toArray] h (pt (h.length + 1) 0) (h ++ [⟨Bs 16 a, true⟩, ⟨Bs 4096 (mixT m a), true⟩]) := by
  (refine AC_begin (fun _ _ => Tryz.call70 _ _) Tryz.func70 rfl Tryz.ntmps70 Tryz.results70 (fun hwf => ?_); simp only [LCN, Nat.reduceAdd, Nat.reduceSub, List.replicate])
  (refine sN0 ?_)
  refine WA_forP (fun k => [(6, J), (7, J), (8, J), (9, J), (10, J), (11, J), (14, .int .i64 k), (15, J), (16, J), (17, J), (18, J), (19, J), (20, J), (21, J), (22, J), (23, J), (24, J), (25, J), (26, J), (27, J), (28, J), (29, J), (30, J), (31, J), (32, J), (33, J), (34, J), (35, J), (36, J), (37, J), (38, J), (39, J), (40, J), (41, J), (42, J), (43, J), (44, J), (45, J), (46, J), (47, J), (48, J), (49, J), (50, J), (51, J), (52, J), (53, J), (54, J), (55, J), (56, J), (57, J), (58, J), (59, J), (60, J)]) (fun k => [(1, ⟨Bs 4096 (pre (k * 4 * 256) (mixT m a) fun _ => 0), true⟩)]) (4) ?_ ?_ ?_ <;> (try simp only [PTS])
  · rw [Nat.zero_mul, pre_zero]
    (exact sS0)
  · intro i hi
    (refine sN0 ?_)
    refine WA_forP (fun k => [(7, J), (8, J), (9, J), (10, J), (11, J), (20, .int .i64 k), (21, J), (22, J), (23, J), (24, J), (25, J), (26, J), (27, J), (28, J), (29, J), (30, J), (31, J), (32, J), (33, J), (34, J), (35, J), (36, J), (37, J), (38, J), (39, J), (40, J), (41, J), (42, J), (43, J), (44, J), (45, J), (46, J), (47, J), (48, J), (49, J), (50, J), (51, J), (52, J), (53, J), (54, J), (55, J), (56, J), (57, J), (58, J), (59, J)]) (fun k => [(1, ⟨Bs 4096 (pre ((i * 4 + k) * 256) (mixT m a) fun _ => 0), true⟩)]) (4) ?_ ?_ ?_ <;> (try simp only [PTS])
    · (exact sS0)
    · intro j hj
      (refine sN0 ?_)
      refine WA_forP (fun k => [(9, .int .i64 ((pw k : Nat) : Int)), (10, J), (11, J), (24, J), (25, J), (26, J), (27, J), (28, J), (29, J), (30, J), (31, J), (32, J), (33, J), (34, J), (35, J), (36, J), (37, J), (38, J), (39, J), (40, J), (41, J), (42, J), (43, J), (44, J), (45, J), (46, J), (47, J), (48, J), (49, J), (50, J), (51, J), (52, J), (53, J), (54, J), (55, J), (56, J), (57, J), (58, J)]) (fun k => [(1, ⟨Bs 4096 (pre ((i * 4 + j) * 256 + pw k) (mixT m a) fun _ => 0), true⟩)]) (8) ?_ ?_ ?_ <;> (try simp only [PTS])
      · rw [mix_start, pw_zero]
        (exact sS0)
      · intro e he
        have hp := pw_lt he
        have hw := wrap_N (n := pw (e + 1)) (by rw [← pw_succ]; omega)
        (refine sW0 (tmI_ac h0 h1) ?_)
        refine WA_forP (fun k => [(11, J), (34, .int .i64 k), (35, J), (36, J), (37, J), (38, J), (39, J), (40, J), (41, J), (42, J), (43, J), (44, J), (45, J), (46, J), (47, J), (48, J), (49, J), (50, J), (51, J), (52, J), (53, J), (54, J), (55, J), (56, J), (57, J), (58, J)]) (fun k => [(1, ⟨Bs 4096 (pre ((i * 4 + j) * 256 + (pw e + k)) (mixT m a) fun _ => 0), true⟩)]) (pw e) ?_ ?_ ?_ <;> (try simp only [PTS])
        · (exact sS0)
        · intro l hl
          have hor := pw_or hl
          have hpl : pre ((i * 4 + j) * 256 + (pw e + l)) (mixT m a) (fun _ => 0) ((i * 4 + j) * 256 + l) = mixT m a ((i * 4 + j) * 256 + l) := if_pos (by omega)
          have ha := mixT_add (m := m) a (q := i * 4 + j) he hl
          have hi1 : i * 1024 + j * 256 = (i * 4 + j) * 256 := by omega
          (repeat (first | ((first | (refine And.intro ?_ ?_; focus exact PLA) | refine WA_seq (WA_region ?_) | refine WA_region ?_ | refine WA_exit ?_); try simp (maxSteps := 1000000) (disch := first | omega | rfl | decide | (simp only [LX] <;> omega)) only [go_sem, Nat.reduceAdd, Int.reduceAdd, Int.reduceSub, Int.reduceMul, BNS, hor, hi1, hpl, ha, upd_pre]) | (refine (WA_rb (id := 15) [21] (SubM.refl _) mixedOk ?_); simp only [LSZ]; (repeat (first | ((first | (refine And.intro ?_ ?_; focus exact PLA) | refine RTk false [0, 1, 2, 3, 4, 5, 6, 7, 8, 9, 10, 11, 12, 13, 14, 17, 18, 19] 4 ?_ | refine RTk true [15] 3 ?_ | refine RTk false [16, 20] 1 ?_ | refine REx 21 ?_ | refine RB_done (by decide +kernel) ?_); try simp (maxSteps := 1000000) (disch := first | omega | rfl | decide | (simp only [LX] <;> omega)) only [go_sem, Nat.reduceAdd, Int.reduceAdd, Int.reduceSub, Int.reduceMul, BNS, hor, hi1, hpl, ha, upd_pre])))) | refine WA_seq ?_ | refine WA_block ?_ | (refine WA_skip ?_; try simp only [go_sem]) | (refine WA_ret ?_; try simp only [go_sem]) | refine WA_ct rfl ?_ | refine WA_cf rfl ?_))
          (exact sS0)
        · (refine sN (And.intro @pw_succ @hw) ?_)
          rw [show (i * 4 + j) * 256 + (pw e + pw e) = (i * 4 + j) * 256 + pw (e + 1) by rw [← pw_succ]; omega]
          (exact sS0)
      · (refine sN (show decide (pw 8 < 256) = false from by decide) ?_)
        rw [show (i * 4 + j) * 256 + pw 8 = (i * 4 + (j + 1)) * 256 by unfold pw; omega]
        (exact sS0)
    · (refine sN0 ?_)
      rw [show (i + 1) * 4 * 256 = (i * 4 + 4) * 256 by omega]
      (exact sS0)
  · (refine sN0 ?_)
    rw [Bs_pre]
    (exact sR0)
theorem newMixer_ac {m : Nat} (h0 : 256 ≤ m) (h1 : m < 512) (a : Nat → UInt8) (h : List Blk) : AC Tryz.prog 70 [.int .i64 m, .agg (Bs 16 a).toArray] h (pt h.length 0) (h ++ [⟨Bs 4096 (mixT m a), true⟩]) := by
  (refine AC_gc [1] (newMixer0_ac h0 h1 a h) (by decide) ?_ ?_ ?_; (focus (repeat (first | exact trivial | (refine And.intro ⟨_, rfl, ?_⟩ ?_; (focus first | (refine Fit_plain ?_; simp only [go_sem, ALS]; done) | exact Fit_nil rfl | exact Fit_dead | (refine Fit_eq ?_ ?_; (focus simp only [go_sem, ALS]); (focus (first | rfl | (simp only [ICS]; done) | (simp only [ICS]; rfl))))))))); (focus first | (refine renV_sl ?_; first | (rw [rhoF_new0]; rfl) | (rw [rhoF_new]; rfl) | (rw [rhoF_old]; first | assumption | omega)) | (refine renV_pt ?_; first | (rw [rhoF_new0]; rfl) | (rw [rhoF_new]; rfl) | (rw [rhoF_old]; first | assumption | omega)) | (refine renV_two ?_ ?_; (focus first | (refine ren1_sl ?_; first | (rw [rhoF_new0]; rfl) | (rw [rhoF_new]; rfl) | (rw [rhoF_old]; first | assumption | omega)) | rfl); (focus rfl)) | rfl | (refine (renV_plain ?_).symm; first | rfl | (refine plain_agg ?_; simp only [go_sem, ALS]; done))); (focus first | (simp only [wfV, wf1, wfC, LAC]; omega) | (refine wfV_two ?_ ?_; (focus simp only [wf1, wfC, LAC]; omega); (focus trivial)) | (refine plainV_wf ?_; (focus first | rfl | (refine plain_agg ?_; simp only [go_sem, ALS]; done)); done)))

end Go.Proofs.YtenkjbkcdcionaaGreat
/- Mixing with tables; the engines of ciphers and of networks. -/
namespace Go.Proofs.YtenkjbkcdcionaaGreat
set_option linter.unusedSimpArgs false
set_option linter.unusedVariables false
set_option maxRecDepth 20000
set_option maxHeartbeats 1000000
open Go.Abs


theorem mixT_0 (m : Nat) (a : Nat → UInt8) (i : Nat) (x : UInt8) : mixT m a (i * 1024 + 0 * 256 + x.toNat) = tm m (a (i * 4 + 0)) x := by rw [← mixT_at]; congr 1; omega
theorem mixT_1 (m : Nat) (a : Nat → UInt8) (i : Nat) (x : UInt8) : mixT m a (i * 1024 + 256 + x.toNat) = tm m (a (i * 4 + 1)) x := by rw [← mixT_at]; congr 1; omega
theorem mixT_2 (m : Nat) (a : Nat → UInt8) (i : Nat) (x : UInt8) : mixT m a (i * 1024 + 512 + x.toNat) = tm m (a (i * 4 + 2)) x := by rw [← mixT_at]; congr 1; omega
theorem mixT_3 (m : Nat) (a : Nat → UInt8) (i : Nat) (x : UInt8) : mixT m a (i * 1024 + 768 + x.toNat) = tm m (a (i * 4 + 3)) x := by rw [← mixT_at]; congr 1; omega
theorem mixF_four (m : Nat) (a f : Nat → UInt8) {c i : Nat} (hi : i < 4) :
    tm m (a (i * 4)) (f (4 * c)) ^^^ tm m (a (i * 4 + 1)) (f (4 * c + 1)) ^^^ tm m (a (i * 4 + 2)) (f (4 * c + 2)) ^^^ tm m (a (i * 4 + 3)) (f (4 * c + 3)) = mixF m a f (4 * c + i) := by
  unfold mixF
  rw [show (4 * c + i) / 4 = c by omega, show (4 * c + i) % 4 = i by omega]
  simp only [mxP, UInt8.zero_xor, Nat.mul_comm c 4, Nat.add_zero]

theorem mixM_ac {m : Nat} {h : List Blk} {bt b c : Nat} {a f : Nat → UInt8} {rt : Bool} (ht : h[bt]? = some ⟨Bs 4096 (mixT m a), rt⟩) (hb : h[b]? = some ⟨Bs (4 * c) f, true⟩) (hne : b ≠ bt) (hc : c ≤ 1000) :
    AC Tryz.prog 87 [pt bt 0, sl b 0 (4 * c) 1] h (.tuple #[]) (h.set b ⟨Bs (4 * c) (mixF m a f), true⟩) := by
  have hbl := blt hb
  have htl := blt ht
  have ht' : ∀ x, (h.set b x)[bt]? = some ⟨Bs 4096 (mixT m a), rt⟩ := fun x => set_at ht hne
  (refine AC_begin (fun _ _ => Tryz.call87 _ _) Tryz.func87 rfl Tryz.ntmps87 Tryz.results87 (fun hwf => ?_); simp only [LCN, Nat.reduceAdd, Nat.reduceSub, List.replicate])
  (refine sN0 ?_)
  refine WA_forH (fun k => [(4, .int .i64 ((4 * k : Nat) : Int)), (5, J), (6, J), (7, J), (8, J), (9, J), (10, J), (11, J), (12, J), (13, J), (14, J), (15, J), (16, J), (17, J), (18, J), (19, J), (20, J), (21, J), (22, J), (23, J), (24, J), (25, J), (26, J), (27, J), (28, J), (29, J), (30, J), (31, J), (32, J), (33, J), (34, J), (35, J), (36, J), (37, J), (38, J), (39, J), (40, J), (41, J), (42, J), (43, J), (44, J), (45, J), (46, J), (47, J), (48, J), (49, J), (50, J), (51, J), (52, J), (53, J), (54, J), (55, J), (56, J), (57, J), (58, J), (59, J), (60, J), (61, J), (62, J), (63, J), (64, J), (65, J), (66, J), (67, J), (68, J), (69, J), (70, J), (71, J), (72, J), (73, J), (74, J), (75, J), (76, J), (77, J), (78, J)]) (fun k => h.set b ⟨Bs (4 * c) (pre (4 * k) (mixF m a f) f), true⟩) (c) ?_ ?_ ?_ <;> (try simp only [PTS])
  · rw [Nat.mul_zero, pre_zero, set_id hb]
    (exact sS0)
  · intro q hq
    (repeat (first | ((first | (refine And.intro ?_ ?_; focus exact PLA) | refine WA_seq (WA_region ?_) | refine WA_region ?_ | refine WA_exit ?_); try simp (maxSteps := 1000000) (disch := first | omega | rfl | decide | (simp only [LX] <;> omega)) only [go_sem, Nat.reduceAdd, Int.reduceAdd, Int.reduceSub, Int.reduceMul, BNS, look_set hbl, pre_get]) | (refine WA_seq (WA_draw (id := 3) mixedOk (by kernel_rfl) ?_); simp (maxSteps := 1000000) (disch := first | omega | rfl | decide | (simp only [LX] <;> omega)) only [go_sem, Nat.reduceAdd, Int.reduceAdd, Int.reduceSub, Int.reduceMul, BNS, look_set hbl, pre_get]) | (refine WA_draw (id := 3) mixedOk (by kernel_rfl) ?_; simp (maxSteps := 1000000) (disch := first | omega | rfl | decide | (simp only [LX] <;> omega)) only [go_sem, Nat.reduceAdd, Int.reduceAdd, Int.reduceSub, Int.reduceMul, BNS, look_set hbl, pre_get]) | refine WA_seq ?_ | refine WA_block ?_ | (refine WA_skip ?_; try simp only [go_sem]) | (refine WA_ret ?_; try simp only [go_sem]) | refine WA_ct rfl ?_ | refine WA_cf rfl ?_))
    refine WA_forH (fun k => [(9, J), (35, .int .i64 k), (36, J), (37, J), (38, J), (39, J), (40, J), (41, J), (42, J), (43, J), (44, J), (45, J), (46, J), (47, J), (48, J), (49, J), (50, J), (51, J), (52, J), (53, J), (54, J), (55, J), (56, J), (57, J), (58, J), (59, J), (60, J), (61, J), (62, J), (63, J), (64, J), (65, J), (66, J), (67, J), (68, J), (69, J), (70, J), (71, J), (72, J), (73, J), (74, J), (75, J), (76, J), (77, J), (78, J)]) (fun k => h.set b ⟨Bs (4 * c) (pre (4 * q + k) (mixF m a f) f), true⟩) (4) ?_ ?_ ?_ <;> (try simp only [PTS])
    · (exact sS0)
    · intro i hi
      have h0 := u8_lt (f (4 * q))
      have h1 := u8_lt (f (4 * q + 1))
      have h2 := u8_lt (f (4 * q + 2))
      have h3 := u8_lt (f (4 * q + 3))
      (repeat (first | ((first | (refine And.intro ?_ ?_; focus exact PLA) | refine WA_seq (WA_region ?_) | refine WA_region ?_ | refine WA_exit ?_); try simp (maxSteps := 1000000) (disch := first | omega | rfl | decide | (simp only [LX] <;> omega)) only [go_sem, Nat.reduceAdd, Int.reduceAdd, Int.reduceSub, Int.reduceMul, BNS, look_set hbl, ht', List.set_set, mixT_0, mixT_1, mixT_2, mixT_3, mixF_four m a f hi, upd_pre]) | (refine (WA_rb (id := 7) [40] (SubM.refl _) mixedOk ?_); simp only [LSZ]; (repeat (first | ((first | (refine And.intro ?_ ?_; focus exact PLA) | refine RTk false [0, 1, 2, 3, 4, 5, 6, 7, 8, 9, 10, 12, 13, 14, 15, 16, 17, 18, 21, 22, 23, 24, 25, 26, 27, 30, 31, 32, 33, 34, 35, 36] 9 ?_ | refine RTk true [11, 19, 28, 37] 5 ?_ | refine RTk false [20, 29, 38, 39] 1 ?_ | refine REx 40 ?_ | refine RB_done (by decide +kernel) ?_); try simp (maxSteps := 1000000) (disch := first | omega | rfl | decide | (simp only [LX] <;> omega)) only [go_sem, Nat.reduceAdd, Int.reduceAdd, Int.reduceSub, Int.reduceMul, BNS, look_set hbl, ht', List.set_set, mixT_0, mixT_1, mixT_2, mixT_3, mixF_four m a f hi, upd_pre])))) | refine WA_seq ?_ | refine WA_block ?_ | (refine WA_skip ?_; try simp only [go_sem]) | (refine WA_ret ?_; try simp only [go_sem]) | refine WA_ct rfl ?_ | refine WA_cf rfl ?_))
      (exact sS0)
    · (refine sN0 ?_)
      rw [show 4 * (q + 1) = 4 * q + 4 by omega]
      (exact sS0)
  · (refine sN0 ?_)
    rw [Bs_pre]
    (exact sR @ares_nil)

theorem mixM16_ac {m : Nat} {h : List Blk} {bt b : Nat} {a f : Nat → UInt8} {rt : Bool} (ht : h[bt]? = some ⟨Bs 4096 (mixT m a), rt⟩) (hb : h[b]? = some ⟨Bs 16 f, true⟩) (hne : b ≠ bt) :
    AC Tryz.prog 87 [pt bt 0, sl b 0 16 1] h (.tuple #[]) (h.set b ⟨Bs 16 (mixF m a f), true⟩) := mixM_ac (c := 4) ht hb hne (by omega)
end Go.Proofs.YtenkjbkcdcionaaGreat
/- The engines of ciphers and of networks. -/
namespace Go.Proofs.YtenkjbkcdcionaaGreat
set_option linter.unusedSimpArgs false
set_option linter.unusedVariables false
set_option maxRecDepth 20000
set_option maxHeartbeats 1000000
open Go.Abs

theorem En_splice4 (a0 a1 a2 a3 : Nat → UInt8) (a4 a5 : Value) (a6 : Int) (x : Value) : splice (En a0 a1 a2 a3 a4 a5 a6) 544 [x] = En a0 a1 a2 a3 x a5 a6 := by rw [En_cut4, mid_splice (n := 1) (by simp [Bs_length]) rfl rfl, ← En_cut4]
theorem En_splice5 (a0 a1 a2 a3 : Nat → UInt8) (a4 a5 : Value) (a6 : Int) (x : Value) : splice (En a0 a1 a2 a3 a4 a5 a6) 545 [x] = En a0 a1 a2 a3 a4 x a6 := by rw [En_cut5, mid_splice (n := 1) (by simp [Bs_length]) rfl rfl, ← En_cut5]
theorem En_splice6 (a0 a1 a2 a3 : Nat → UInt8) (a4 a5 : Value) (a6 : Int) (x : Int) : splice (En a0 a1 a2 a3 a4 a5 a6) 546 [.int .i64 x] = En a0 a1 a2 a3 a4 a5 x := by rw [En_cut6, mid_splice (n := 1) (by simp [Bs_length]) rfl rfl, ← En_cut6]
set_option maxHeartbeats 400000 in
theorem newEngine_ac {m : Nat} (h0 : 256 ≤ m) (h1 : m < 512) (bx mx : Nat → UInt8) {pl : Nat → UInt8} (hp : plOk pl = true) (r : Int) (h : List Blk) :
    AC Tryz.prog 32 [.agg (Ci m bx mx pl r).toArray] h (pt (h.length + 4) 0)
      (h ++ [⟨Ci m bx mx pl r, true⟩, ⟨Bs 16 (backF m mx), true⟩, ⟨Bs 4096 (mixT m mx), true⟩, ⟨Bs 4096 (mixT m (backF m mx)), true⟩, ⟨En bx (invP bx 256) pl (invP pl 16) (pt (h.length + 2) 0) (pt (h.length + 3) 0) r, true⟩]) := by
  (refine AC_begin (fun _ _ => Tryz.call32 _ _) Tryz.func32 rfl Tryz.ntmps32 Tryz.results32 (fun hwf => ?_); simp only [LCN, Nat.reduceAdd, Nat.reduceSub, List.replicate])
  (repeat (first | ((first | (refine And.intro ?_ ?_; focus exact PLA) | ((first | with_reducible apply callB_i | with_reducible apply callK_intro | with_reducible apply callQ_i); (focus (first | assumption | ((first | with_reducible apply redI_ac h0 h1 | with_reducible apply invBoxI_ac | with_reducible apply turnPI_ac hp | with_reducible apply newMixer_ac h0 h1) <;> (first | assumption | rfl | (simp (disch := omega) only [go_sem]; first | done | rfl) | omega | decide | (simp; done))))); (try exact WP_au)) | refine WA_seq (WA_region ?_) | refine WA_region ?_ | refine WA_exit ?_); try simp (maxSteps := 1000000) (disch := first | omega | rfl | decide | (simp only [LX] <;> omega)) only [go_sem, Nat.reduceAdd, Int.reduceAdd, Int.reduceSub, Int.reduceMul, BNS, En_splice0, En_splice1, En_splice2, En_splice3, En_splice4, En_splice5, En_splice6]) | (refine (WA_rb (id := 2) [22] (SubM.refl _) mixedOk ?_); simp only [LSZ]; (repeat (first | ((first | (refine And.intro ?_ ?_; focus exact PLA) | ((first | with_reducible apply callB_i | with_reducible apply callK_intro | with_reducible apply callQ_i | with_reducible apply callC_i); (focus (first | assumption | ((first | with_reducible apply redI_ac h0 h1 | with_reducible apply invBoxI_ac | with_reducible apply turnPI_ac hp | with_reducible apply newMixer_ac h0 h1) <;> (first | assumption | rfl | (simp (disch := omega) only [go_sem]; first | done | rfl) | omega | decide | (simp; done))))); (try (focus (exact NL.mk rfl))); (try exact WP_au)) | refine RTk false [0, 2, 5, 7, 10, 12, 15, 19] 16 ?_ | refine RTk true [1, 3, 4, 6, 8, 9, 11, 13, 16, 17, 20] 5 ?_ | refine RB_keepC 14 _ (by rfl) (by decide +kernel) ?_ | refine RB_keepC 18 _ (by rfl) (by decide +kernel) ?_ | refine RTk false [21] 2 ?_ | refine REx 22 ?_ | refine RTk false [23] 0 ?_ | refine RB_done (by decide +kernel) ?_); try simp (maxSteps := 1000000) (disch := first | omega | rfl | decide | (simp only [LX] <;> omega)) only [go_sem, Nat.reduceAdd, Int.reduceAdd, Int.reduceSub, Int.reduceMul, BNS, En_splice0, En_splice1, En_splice2, En_splice3, En_splice4, En_splice5, En_splice6])))) | refine WA_seq ?_ | refine WA_block ?_ | (refine WA_skip ?_; try simp only [go_sem]) | (refine WA_ret ?_; try simp only [go_sem]) | refine WA_ct rfl ?_ | refine WA_cf rfl ?_))
  (exact sR0)

end Go.Proofs.YtenkjbkcdcionaaGreat
/- IsCipher. -/
namespace Go.Proofs.YtenkjbkcdcionaaGreat
set_option linter.unusedSimpArgs false
set_option linter.unusedVariables false
set_option maxRecDepth 20000
set_option maxHeartbeats 1000000
open Go.Abs

theorem cipI_ac (m r : Int) (bx mx pl : Nat → UInt8) (h : List Blk) : AC Tryz.prog 29 [.agg (Ci m bx mx pl r).toArray] h (.bool (cipB m bx mx pl r)) h := by
  have hr := inI_ac r 1 20
  cases hf : fieldB m.toNat
  · (refine AC_begin (fun _ _ => Tryz.call29 _ _) Tryz.func29 rfl Tryz.ntmps29 Tryz.results29 (fun hwf => ?_); simp only [LCN, Nat.reduceAdd, Nat.reduceSub, List.replicate])
    (refine sW (And.intro @hf (And.intro (@yieldA_at 3 6) (And.intro (@yieldA_at 8 11) (And.intro (@yieldA_at 15 18) (@yieldA_at 20 23))))) @isField_ac ?_)
    (exact sR (And.intro @cipB.eq_1 (And.intro @hf @Bool.false_and)))
  · obtain ⟨p, rfl, hp, h0, h1⟩ := fieldB_nat hf
    rw [Int.toNat_natCast] at hf
    cases hb : boxOk bx
    · (refine AC_begin (fun _ _ => Tryz.call29 _ _) Tryz.func29 rfl Tryz.ntmps29 Tryz.results29 (fun hwf => ?_); simp only [LCN, Nat.reduceAdd, Nat.reduceSub, List.replicate])
      (refine sW (And.intro @hf (And.intro @hb (And.intro (@yieldA_at 3 6) (And.intro (@yieldA_at 8 11) (And.intro (@yieldA_at 15 18) (@yieldA_at 20 23)))))) (And.intro @isField_ac @boxI_ac) ?_)
      (exact sR (And.intro @cipB.eq_1 (And.intro @Int.toNat_natCast (And.intro @hf (And.intro @hb (And.intro @Bool.false_and @Bool.and_false))))))
    · cases hd : detF p mx != 0
      · (refine AC_begin (fun _ _ => Tryz.call29 _ _) Tryz.func29 rfl Tryz.ntmps29 Tryz.results29 (fun hwf => ?_); simp only [LCN, Nat.reduceAdd, Nat.reduceSub, List.replicate])
        (refine sW (And.intro @hf (And.intro @hb (And.intro @hd (And.intro (@yieldA_at 3 6) (And.intro (@yieldA_at 8 11) (And.intro (@yieldA_at 15 18) (@yieldA_at 20 23))))))) (And.intro @isField_ac (And.intro @boxI_ac (isInvI_ac h0 h1))) ?_)
        (exact sR (And.intro @cipB.eq_1 (And.intro @Int.toNat_natCast (And.intro @hf (And.intro @hb (And.intro @hd (And.intro @Bool.false_and @Bool.and_false)))))))
      · cases hi : plOk pl
        · (refine AC_begin (fun _ _ => Tryz.call29 _ _) Tryz.func29 rfl Tryz.ntmps29 Tryz.results29 (fun hwf => ?_); simp only [LCN, Nat.reduceAdd, Nat.reduceSub, List.replicate])
          (refine sW (And.intro @hf (And.intro @hb (And.intro @hd (And.intro @hi (And.intro (@yieldA_at 3 6) (And.intro (@yieldA_at 8 11) (And.intro (@yieldA_at 15 18) (@yieldA_at 20 23)))))))) (And.intro @isField_ac (And.intro @boxI_ac (And.intro (isInvI_ac h0 h1) @permI_ac))) ?_)
          (exact sR (And.intro @cipB.eq_1 (And.intro @Int.toNat_natCast (And.intro @hf (And.intro @hb (And.intro @hd (And.intro @hi (And.intro @Bool.false_and @Bool.and_false))))))))
        · (refine AC_begin (fun _ _ => Tryz.call29 _ _) Tryz.func29 rfl Tryz.ntmps29 Tryz.results29 (fun hwf => ?_); simp only [LCN, Nat.reduceAdd, Nat.reduceSub, List.replicate])
          (refine sW (And.intro @hf (And.intro @hb (And.intro @hd (And.intro @hi (And.intro (@yieldA_at 3 6) (And.intro (@yieldA_at 8 11) (And.intro (@yieldA_at 15 18) (@yieldA_at 20 23)))))))) (And.intro @isField_ac (And.intro @boxI_ac (And.intro (isInvI_ac h0 h1) (And.intro @permI_ac @hr)))) ?_)
          (exact sR (And.intro @cipB.eq_1 (And.intro @Int.toNat_natCast (And.intro @hf (And.intro @hb (And.intro @hd (And.intro @hi @Bool.true_and)))))))

theorem cipS_ac (m r : Int) (bx mx pl : Nat → UInt8) (h : List Blk) : AC Tryz.prog 27 [.agg (Ci m bx mx pl r).toArray] h (.bool (cipB m bx mx pl r)) h := by
  have hr := inS_ac r 1 20
  cases hf : fieldB m.toNat
  · (refine AC_begin (fun _ _ => Tryz.call27 _ _) Tryz.func27 rfl Tryz.ntmps27 Tryz.results27 (fun hwf => ?_); simp only [LCN, Nat.reduceAdd, Nat.reduceSub, List.replicate])
    (refine sW (And.intro @hf (And.intro (@yieldA_at 4 9) (And.intro (@yieldA_at 10 15) (@yieldA_at 16 21)))) @fieldS_ac ?_)
    (exact sR (And.intro @cipB.eq_1 (And.intro @hf @Bool.false_and)))
  · obtain ⟨p, rfl, hp, h0, h1⟩ := fieldB_nat hf
    rw [Int.toNat_natCast] at hf
    cases hb : boxOk bx
    · (refine AC_begin (fun _ _ => Tryz.call27 _ _) Tryz.func27 rfl Tryz.ntmps27 Tryz.results27 (fun hwf => ?_); simp only [LCN, Nat.reduceAdd, Nat.reduceSub, List.replicate])
      (refine sW (And.intro @hf (And.intro @hb (And.intro (@yieldA_at 4 9) (And.intro (@yieldA_at 10 15) (@yieldA_at 16 21))))) (And.intro @fieldS_ac @boxS_ac) ?_)
      (exact sR (And.intro @cipB.eq_1 (And.intro @Int.toNat_natCast (And.intro @hf (And.intro @hb (And.intro @Bool.false_and @Bool.and_false))))))
    · cases hi : plOk pl
      · (refine AC_begin (fun _ _ => Tryz.call27 _ _) Tryz.func27 rfl Tryz.ntmps27 Tryz.results27 (fun hwf => ?_); simp only [LCN, Nat.reduceAdd, Nat.reduceSub, List.replicate])
        (refine sW (And.intro @hf (And.intro @hb (And.intro @hi (And.intro (@yieldA_at 4 9) (And.intro (@yieldA_at 10 15) (@yieldA_at 16 21)))))) (And.intro @fieldS_ac (And.intro @boxS_ac @permS_ac)) ?_)
        (exact sR (And.intro @cipB.eq_1 (And.intro @Int.toNat_natCast (And.intro @hf (And.intro @hb (And.intro @hi (And.intro @Bool.false_and @Bool.and_false)))))))
      · cases hR : inR r 1 20 <;> rw [hR] at hr
        · (refine AC_begin (fun _ _ => Tryz.call27 _ _) Tryz.func27 rfl Tryz.ntmps27 Tryz.results27 (fun hwf => ?_); simp only [LCN, Nat.reduceAdd, Nat.reduceSub, List.replicate])
          (refine sW (And.intro @hf (And.intro @hb (And.intro @hi (And.intro (@yieldA_at 4 9) (And.intro (@yieldA_at 10 15) (@yieldA_at 16 21)))))) (And.intro @fieldS_ac (And.intro @boxS_ac (And.intro @permS_ac @hr))) ?_)
          (exact sR (And.intro @cipB.eq_1 (And.intro @Int.toNat_natCast (And.intro @hf (And.intro @hb (And.intro @hi (And.intro @hR (And.intro @Bool.true_and @Bool.and_false))))))))
        · (refine AC_begin (fun _ _ => Tryz.call27 _ _) Tryz.func27 rfl Tryz.ntmps27 Tryz.results27 (fun hwf => ?_); simp only [LCN, Nat.reduceAdd, Nat.reduceSub, List.replicate])
          (refine sW (And.intro @hf (And.intro @hb (And.intro @hi (And.intro (@yieldA_at 4 9) (And.intro (@yieldA_at 10 15) (@yieldA_at 16 21)))))) (And.intro @fieldS_ac (And.intro @boxS_ac (And.intro @permS_ac (And.intro @hr (inverseS_ac h0 h1))))) ?_)
          (exact sR (And.intro @cipB.eq_1 (And.intro @Int.toNat_natCast (And.intro @hf (And.intro @hb (And.intro @hi (And.intro @hR (And.intro @Bool.true_and @Bool.and_true))))))))

end Go.Proofs.YtenkjbkcdcionaaGreat
/- Layers of ciphers. -/
namespace Go.Proofs.YtenkjbkcdcionaaGreat
set_option linter.unusedSimpArgs false
set_option linter.unusedVariables false
set_option maxRecDepth 20000
set_option maxHeartbeats 1000000
open Go.Abs

def layF (m : Nat) (mx pl d : Nat → UInt8) (last : Bool) : Nat → UInt8 := cond last (movF pl d) (mixF m mx (movF pl d))
def befF (m : Nat) (mx pl e : Nat → UInt8) (last : Bool) : Nat → UInt8 := movF (invP pl 16) (cond last e (mixF m (backF m mx) e))
theorem layS_ac {m : Nat} (h0 : 256 ≤ m) (h1 : m < 512) (r : Int) (bx mx : Nat → UInt8) {pl : Nat → UInt8} (hp : ∀ i, i < 16 → (pl i).toNat < 16) (d : Nat → UInt8) (last : Bool) (h : List Blk) :
    AC Tryz.prog 62 [.agg (Ci m bx mx pl r).toArray, .agg (Bs 16 d).toArray, .bool last] h (.agg (Bs 16 (layF m mx pl d last)).toArray) h := by
  cases last <;>
  · (refine AC_begin (fun _ _ => Tryz.call62 _ _) Tryz.func62 rfl Tryz.ntmps62 Tryz.results62 (fun hwf => ?_); simp only [LCN, Nat.reduceAdd, Nat.reduceSub, List.replicate])
    (repeat (first | ((first | (refine And.intro ?_ ?_; focus exact PLA) | ((first | with_reducible apply callB_i | with_reducible apply callK_intro | with_reducible apply callQ_i); (focus (first | assumption | ((first | with_reducible apply moveS_ac hp | with_reducible apply mixS_ac h0 h1) <;> (first | assumption | rfl | (simp (disch := omega) only [go_sem]; first | done | rfl) | omega | decide | (simp; done))))); (try exact WP_au)) | refine WA_seq (WA_region ?_) | refine WA_region ?_ | refine WA_exit ?_); try simp (maxSteps := 1000000) (disch := first | omega | rfl | decide | (simp only [LX] <;> omega)) only [go_sem, Nat.reduceAdd, Int.reduceAdd, Int.reduceSub, Int.reduceMul, BNS]) | refine WA_seq ?_ | refine WA_block ?_ | (refine WA_skip ?_; try simp only [go_sem]) | (refine WA_ret ?_; try simp only [go_sem]) | refine WA_ct rfl ?_ | refine WA_cf rfl ?_))
    ((first | refine ret_nA ?_ | refine ret_sA ?_ | refine ret_fA ?_); simp (maxSteps := 1000000) (disch := first | omega | rfl | decide | (simp only [LX] <;> omega)) only [go_sem, Nat.reduceAdd, Int.reduceAdd, Int.reduceSub, Int.reduceMul, BNS, layF, cond_true, cond_false]; try rfl)

theorem befS_ac {m : Nat} (h0 : 256 ≤ m) (h1 : m < 512) (r : Int) (bx mx : Nat → UInt8) {pl : Nat → UInt8} (hp : plOk pl = true) (d : Nat → UInt8) (last : Bool) (h : List Blk) :
    AC Tryz.prog 73 [.agg (Ci m bx mx pl r).toArray, .agg (Bs 16 d).toArray, .bool last] h (.agg (Bs 16 (befF m mx pl d last)).toArray) h := by
  cases last <;>
  · (refine AC_begin (fun _ _ => Tryz.call73 _ _) Tryz.func73 rfl Tryz.ntmps73 Tryz.results73 (fun hwf => ?_); simp only [LCN, Nat.reduceAdd, Nat.reduceSub, List.replicate])
    (repeat (first | ((first | (refine And.intro ?_ ?_; focus exact PLA) | ((first | with_reducible apply callB_i | with_reducible apply callK_intro | with_reducible apply callQ_i); (focus (first | assumption | ((first | with_reducible apply backPS_ac hp | with_reducible apply inverseS_ac h0 h1 | with_reducible apply mixS_ac h0 h1) <;> (first | assumption | rfl | (simp (disch := omega) only [go_sem]; first | done | rfl) | omega | decide | (simp; done))))); (try exact WP_au)) | refine WA_seq (WA_region ?_) | refine WA_region ?_ | refine WA_exit ?_); try simp (maxSteps := 1000000) (disch := first | omega | rfl | decide | (simp only [LX] <;> omega)) only [go_sem, Nat.reduceAdd, Int.reduceAdd, Int.reduceSub, Int.reduceMul, BNS, BNS]) | refine WA_seq ?_ | refine WA_block ?_ | (refine WA_skip ?_; try simp only [go_sem]) | (refine WA_ret ?_; try simp only [go_sem]) | refine WA_ct rfl ?_ | refine WA_cf rfl ?_))
    ((first | refine ret_nA ?_ | refine ret_sA ?_ | refine ret_fA ?_); simp (maxSteps := 1000000) (disch := first | omega | rfl | decide | (simp only [LX] <;> omega)) only [go_sem, Nat.reduceAdd, Int.reduceAdd, Int.reduceSub, Int.reduceMul, BNS, befF, cond_true, cond_false]; try rfl)

theorem layI_ac {m : Nat} {h : List Blk} {be bt : Nat} {bx ib pl ip mx : Nat → UInt8} {v5 : Value} {r : Int} {re rt : Bool} (he : h[be]? = some ⟨En bx ib pl ip (pt bt 0) v5 r, re⟩) (ht : h[bt]? = some ⟨Bs 4096 (mixT m mx), rt⟩)
    (hp : ∀ i, i < 16 → (pl i).toNat < 16) (d : Nat → UInt8) (last : Bool) :
    AC Tryz.prog 76 [pt be 0, .agg (Bs 16 d).toArray, .bool last] h (.agg (Bs 16 (layF m mx pl d last)).toArray) h := by
  have hbe := blt he
  have hbt := blt ht
  cases last <;>
  · (refine AC_begin (fun _ _ => Tryz.call76 _ _) Tryz.func76 rfl Tryz.ntmps76 Tryz.results76 (fun hwf => ?_); simp only [LCN, Nat.reduceAdd, Nat.reduceSub, List.replicate])
    (repeat (first | ((first | (refine And.intro ?_ ?_; focus exact PLA) | ((first | with_reducible apply callB_i | with_reducible apply callK_intro | with_reducible apply callQ_i); (focus (first | assumption | (with_reducible apply moveI_ac hp <;> (first | assumption | rfl | (simp (disch := omega) only [go_sem]; first | done | rfl) | omega | decide | (simp; done))) | (with_reducible apply mixM16_ac <;> (first | assumption | (refine look_old ?_ _; assumption) | rfl | (simp (disch := omega) only [go_sem]; first | done | rfl) | omega | decide | (simp; done))))); (try exact WP_au)) | refine WA_seq (WA_region ?_) | refine WA_region ?_ | refine WA_exit ?_); try simp (maxSteps := 1000000) (disch := first | omega | rfl | decide | (simp only [LX] <;> omega)) only [go_sem, Nat.reduceAdd, Int.reduceAdd, Int.reduceSub, Int.reduceMul, BNS, look_old he, look_old ht, BNS]) | (refine (WA_rb (id := 1) [6] (SubM.refl _) mixedOk ?_); simp only [LSZ]; (repeat (first | ((first | (refine And.intro ?_ ?_; focus exact PLA) | ((first | with_reducible apply callB_i | with_reducible apply callK_intro | with_reducible apply callQ_i); (focus (first | assumption | (with_reducible apply moveI_ac hp <;> (first | assumption | rfl | (simp (disch := omega) only [go_sem]; first | done | rfl) | omega | decide | (simp; done))) | (with_reducible apply mixM16_ac <;> (first | assumption | (refine look_old ?_ _; assumption) | rfl | (simp (disch := omega) only [go_sem]; first | done | rfl) | omega | decide | (simp; done))))); (try exact WP_au)) | refine RTk false [0, 1, 2] 4 ?_ | refine RTk true [3, 4, 5] 1 ?_ | refine REx 6 ?_ | refine RB_done (by decide +kernel) ?_); try simp (maxSteps := 1000000) (disch := first | omega | rfl | decide | (simp only [LX] <;> omega)) only [go_sem, Nat.reduceAdd, Int.reduceAdd, Int.reduceSub, Int.reduceMul, BNS, look_old he, look_old ht, BNS])))) | (refine (WA_rb (id := 3) [5] (SubM.refl _) mixedOk ?_); simp only [LSZ]; (repeat (first | ((first | (refine And.intro ?_ ?_; focus exact PLA) | ((first | with_reducible apply callB_i | with_reducible apply callK_intro | with_reducible apply callQ_i); (focus (first | assumption | (with_reducible apply moveI_ac hp <;> (first | assumption | rfl | (simp (disch := omega) only [go_sem]; first | done | rfl) | omega | decide | (simp; done))) | (with_reducible apply mixM16_ac <;> (first | assumption | (refine look_old ?_ _; assumption) | rfl | (simp (disch := omega) only [go_sem]; first | done | rfl) | omega | decide | (simp; done))))); (try exact WP_au)) | refine RTk false [0, 1, 2] 3 ?_ | refine RTk true [3, 4] 1 ?_ | refine REx 5 ?_ | refine RB_done (by decide +kernel) ?_); try simp (maxSteps := 1000000) (disch := first | omega | rfl | decide | (simp only [LX] <;> omega)) only [go_sem, Nat.reduceAdd, Int.reduceAdd, Int.reduceSub, Int.reduceMul, BNS, look_old he, look_old ht, BNS])))) | refine WA_seq ?_ | refine WA_block ?_ | (refine WA_skip ?_; try simp only [go_sem]) | (refine WA_ret ?_; try simp only [go_sem]) | refine WA_ct rfl ?_ | refine WA_cf rfl ?_))
    ((first | refine ret_nA ?_ | refine ret_sA ?_ | refine ret_fA ?_); simp (maxSteps := 1000000) (disch := first | omega | rfl | decide | (simp only [LX] <;> omega)) only [go_sem, Nat.reduceAdd, Int.reduceAdd, Int.reduceSub, Int.reduceMul, BNS, layF, cond_true, cond_false]; try rfl)

theorem befI_ac {m : Nat} {h : List Blk} {be bt : Nat} {bx ib pl ip mx : Nat → UInt8} {v4 : Value} {r : Int} {re rt : Bool} (he : h[be]? = some ⟨En bx ib pl ip v4 (pt bt 0) r, re⟩) (ht : h[bt]? = some ⟨Bs 4096 (mixT m mx), rt⟩)
    (hp : ∀ i, i < 16 → (ip i).toNat < 16) (d : Nat → UInt8) (last : Bool) :
    AC Tryz.prog 71 [pt be 0, .agg (Bs 16 d).toArray, .bool last] h (.agg (Bs 16 (movF ip (cond last d (mixF m mx d)))).toArray) h := by
  have hbe := blt he
  have hbt := blt ht
  cases last <;>
  · (refine AC_begin (fun _ _ => Tryz.call71 _ _) Tryz.func71 rfl Tryz.ntmps71 Tryz.results71 (fun hwf => ?_); simp only [LCN, Nat.reduceAdd, Nat.reduceSub, List.replicate])
    (repeat (first | ((first | (refine And.intro ?_ ?_; focus exact PLA) | ((first | with_reducible apply callB_i | with_reducible apply callK_intro | with_reducible apply callQ_i); (focus (first | assumption | (with_reducible apply moveI_ac hp <;> (first | assumption | rfl | (simp (disch := omega) only [go_sem]; first | done | rfl) | omega | decide | (simp; done))) | (with_reducible apply mixM16_ac <;> (first | assumption | (refine look_old ?_ _; assumption) | rfl | (simp (disch := omega) only [go_sem]; first | done | rfl) | omega | decide | (simp; done))))); (try exact WP_au)) | refine WA_seq (WA_region ?_) | refine WA_region ?_ | refine WA_exit ?_); try simp (maxSteps := 1000000) (disch := first | omega | rfl | decide | (simp only [LX] <;> omega)) only [go_sem, Nat.reduceAdd, Int.reduceAdd, Int.reduceSub, Int.reduceMul, BNS, look_old he, look_old ht, BNS]) | (refine (WA_rb (id := 2) [5] (SubM.refl _) mixedOk ?_); simp only [LSZ]; (repeat (first | ((first | (refine And.intro ?_ ?_; focus exact PLA) | ((first | with_reducible apply callB_i | with_reducible apply callK_intro | with_reducible apply callQ_i); (focus (first | assumption | (with_reducible apply moveI_ac hp <;> (first | assumption | rfl | (simp (disch := omega) only [go_sem]; first | done | rfl) | omega | decide | (simp; done))) | (with_reducible apply mixM16_ac <;> (first | assumption | (refine look_old ?_ _; assumption) | rfl | (simp (disch := omega) only [go_sem]; first | done | rfl) | omega | decide | (simp; done))))); (try exact WP_au)) | refine RTk false [0, 1, 2] 3 ?_ | refine RTk true [3, 4] 1 ?_ | refine REx 5 ?_ | refine RB_done (by decide +kernel) ?_); try simp (maxSteps := 1000000) (disch := first | omega | rfl | decide | (simp only [LX] <;> omega)) only [go_sem, Nat.reduceAdd, Int.reduceAdd, Int.reduceSub, Int.reduceMul, BNS, look_old he, look_old ht, BNS])))) | (refine (WA_rb (id := 3) [6] (SubM.refl _) mixedOk ?_); simp only [LSZ]; (repeat (first | ((first | (refine And.intro ?_ ?_; focus exact PLA) | ((first | with_reducible apply callB_i | with_reducible apply callK_intro | with_reducible apply callQ_i); (focus (first | assumption | (with_reducible apply moveI_ac hp <;> (first | assumption | rfl | (simp (disch := omega) only [go_sem]; first | done | rfl) | omega | decide | (simp; done))) | (with_reducible apply mixM16_ac <;> (first | assumption | (refine look_old ?_ _; assumption) | rfl | (simp (disch := omega) only [go_sem]; first | done | rfl) | omega | decide | (simp; done))))); (try exact WP_au)) | refine RTk false [0, 1, 2] 4 ?_ | refine RTk true [3, 4, 5] 1 ?_ | refine REx 6 ?_ | refine RB_done (by decide +kernel) ?_); try simp (maxSteps := 1000000) (disch := first | omega | rfl | decide | (simp only [LX] <;> omega)) only [go_sem, Nat.reduceAdd, Int.reduceAdd, Int.reduceSub, Int.reduceMul, BNS, look_old he, look_old ht, BNS])))) | refine WA_seq ?_ | refine WA_block ?_ | (refine WA_skip ?_; try simp only [go_sem]) | (refine WA_ret ?_; try simp only [go_sem]) | refine WA_ct rfl ?_ | refine WA_cf rfl ?_))
    ((first | refine ret_nA ?_ | refine ret_sA ?_ | refine ret_fA ?_); simp (maxSteps := 1000000) (disch := first | omega | rfl | decide | (simp only [LX] <;> omega)) only [go_sem, Nat.reduceAdd, Int.reduceAdd, Int.reduceSub, Int.reduceMul, BNS, cond_true, cond_false]; try rfl)

end Go.Proofs.YtenkjbkcdcionaaGreat
/- Counts of differences. -/
namespace Go.Proofs.YtenkjbkcdcionaaGreat
set_option linter.unusedSimpArgs false
set_option linter.unusedVariables false
set_option maxRecDepth 20000
set_option maxHeartbeats 1000000
open Go.Abs

def diA (bx : Nat → UInt8) (d : UInt8) (k : Nat) : UInt8 := bx k ^^^ bx (UInt8.ofNat k ^^^ d).toNat
def difP (bx : Nat → UInt8) (d : UInt8) : Nat → Nat → Nat
  | 0 => fun _ => 0
  | k + 1 => upd (difP bx d k) (diA bx d k).toNat (difP bx d k (diA bx d k).toNat + 1)
def difI (bx : Nat → UInt8) (d : UInt8) (k : Nat) : Nat → Int := fun y => ((difP bx d k y : Nat) : Int)
theorem difI_zero (bx : Nat → UInt8) (d : UInt8) : difI bx d 0 = fun _ => 0 := rfl
theorem difP_le (bx : Nat → UInt8) (d : UInt8) : ∀ k y, difP bx d k y ≤ k
  | 0, _ => Nat.le_refl 0
  | k + 1, y => by
    have := difP_le bx d k
    unfold difP upd
    split
    · have := this (diA bx d k).toNat; omega
    · have := this y; omega
theorem difI_set (bx : Nat → UInt8) (d : UInt8) (k : Nat) : upd (difI bx d k) (diA bx d k).toNat ((difP bx d k (diA bx d k).toNat + 1 : Nat) : Int) = difI bx d (k + 1) := by
  funext y
  by_cases hy : y = (diA bx d k).toNat <;> simp [difI, difP, upd, hy]
theorem difS_z_ac (bx : Nat → UInt8) (d : UInt8) (h : List Blk) : AC Tryz.prog 61 [.agg (Bs 256 bx).toArray, B d] h (sl (h.length + 1) 0 256 1) (h ++ [⟨Bs 256 bx, true⟩, ⟨Is 256 (difI bx d 256), true⟩]) := by
  (refine AC_begin (fun _ _ => Tryz.call61 _ _) Tryz.func61 rfl Tryz.ntmps61 Tryz.results61 (fun hwf => ?_); simp only [LCN, Nat.reduceAdd, Nat.reduceSub, List.replicate])
  (repeat (first | ((first | (refine And.intro ?_ ?_; focus exact PLA) | refine WA_seq (WA_region ?_) | refine WA_region ?_ | refine WA_exit ?_); try simp (maxSteps := 1000000) (disch := first | omega | rfl | decide | (simp only [LX] <;> omega)) only [go_sem, Nat.reduceAdd, Int.reduceAdd, Int.reduceSub, Int.reduceMul, BNS, repA_I]) | (refine (WA_rb (id := 5) [15] (SubM.refl _) mixedOk ?_); simp only [LSZ]; (repeat (first | ((first | (refine And.intro ?_ ?_; focus exact PLA) | refine RTk false [0, 1, 2, 4, 5, 6, 7, 8] 8 ?_ | refine RTk true [3, 9] 6 ?_ | refine RTk false [10, 11] 4 ?_ | refine RTk true [12] 3 ?_ | refine RTk false [13, 14] 1 ?_ | refine REx 15 ?_ | refine RB_done (by decide +kernel) ?_); try simp (maxSteps := 1000000) (disch := first | omega | rfl | decide | (simp only [LX] <;> omega)) only [go_sem, Nat.reduceAdd, Int.reduceAdd, Int.reduceSub, Int.reduceMul, BNS, repA_I])))) | refine WA_seq ?_ | refine WA_block ?_ | (refine WA_skip ?_; try simp only [go_sem]) | (refine WA_ret ?_; try simp only [go_sem]) | refine WA_ct rfl ?_ | refine WA_cf rfl ?_))
  refine WA_forP (fun k => [(6, .int .i64 k), (8, J), (9, J), (10, J), (11, J), (12, J), (13, J), (14, J), (15, J), (16, J), (17, J), (18, J), (19, J), (20, J), (21, J), (22, J), (23, J), (24, J), (25, J), (26, J)]) (fun k => [(1, ⟨Is 256 (difI bx d k), true⟩)]) (256) ?_ ?_ ?_ <;> (try simp only [PTS])
  · rw [difI_zero]
    (exact sS0)
  · intro k hk
    have hx := u8_lt (UInt8.ofNat k ^^^ d)
    have hy := u8_lt (diA bx d k)
    have hle := difP_le bx d k (diA bx d k).toNat
    (repeat (first | ((first | (refine And.intro ?_ ?_; focus exact PLA) | refine WA_seq (WA_region ?_) | refine WA_region ?_ | refine WA_exit ?_); try simp (maxSteps := 1000000) (disch := first | omega | rfl | decide | (simp only [LX] <;> omega)) only [go_sem, Nat.reduceAdd, Int.reduceAdd, Int.reduceSub, Int.reduceMul, BNS, show bx k ^^^ bx (UInt8.ofNat k ^^^ d).toNat = diA bx d k from rfl, show difI bx d k (diA bx d k).toNat = ((difP bx d k (diA bx d k).toNat : Nat) : Int) from rfl, difI_set]) | (refine (WA_rb (id := 5) [15] (SubM.refl _) mixedOk ?_); simp only [LSZ]; (repeat (first | ((first | (refine And.intro ?_ ?_; focus exact PLA) | refine RTk false [0, 1, 2, 4, 5, 6, 7, 8] 8 ?_ | refine RTk true [3, 9] 6 ?_ | refine RTk false [10, 11] 4 ?_ | refine RTk true [12] 3 ?_ | refine RTk false [13, 14] 1 ?_ | refine REx 15 ?_ | refine RB_done (by decide +kernel) ?_); try simp (maxSteps := 1000000) (disch := first | omega | rfl | decide | (simp only [LX] <;> omega)) only [go_sem, Nat.reduceAdd, Int.reduceAdd, Int.reduceSub, Int.reduceMul, BNS, show bx k ^^^ bx (UInt8.ofNat k ^^^ d).toNat = diA bx d k from rfl, show difI bx d k (diA bx d k).toNat = ((difP bx d k (diA bx d k).toNat : Nat) : Int) from rfl, difI_set])))) | refine WA_seq ?_ | refine WA_block ?_ | (refine WA_skip ?_; try simp only [go_sem]) | (refine WA_ret ?_; try simp only [go_sem]) | refine WA_ct rfl ?_ | refine WA_cf rfl ?_))
    (exact sS0)
  · (repeat (first | ((first | (refine And.intro ?_ ?_; focus exact PLA) | refine WA_seq (WA_region ?_) | refine WA_region ?_ | refine WA_exit ?_); try simp (maxSteps := 1000000) (disch := first | omega | rfl | decide | (simp only [LX] <;> omega)) only [go_sem, Nat.reduceAdd, Int.reduceAdd, Int.reduceSub, Int.reduceMul, BNS]) | (refine (WA_rb (id := 5) [15] (SubM.refl _) mixedOk ?_); simp only [LSZ]; (repeat (first | ((first | (refine And.intro ?_ ?_; focus exact PLA) | refine RTk false [0, 1, 2, 4, 5, 6, 7, 8] 8 ?_ | refine RTk true [3, 9] 6 ?_ | refine RTk false [10, 11] 4 ?_ | refine RTk true [12] 3 ?_ | refine RTk false [13, 14] 1 ?_ | refine REx 15 ?_ | refine RB_done (by decide +kernel) ?_); try simp (maxSteps := 1000000) (disch := first | omega | rfl | decide | (simp only [LX] <;> omega)) only [go_sem, Nat.reduceAdd, Int.reduceAdd, Int.reduceSub, Int.reduceMul, BNS])))) | refine WA_seq ?_ | refine WA_block ?_ | (refine WA_skip ?_; try simp only [go_sem]) | (refine WA_ret ?_; try simp only [go_sem]) | refine WA_ct rfl ?_ | refine WA_cf rfl ?_))
    (exact sR0)
theorem difS_ac (bx : Nat → UInt8) (d : UInt8) (h : List Blk) : AC Tryz.prog 61 [.agg (Bs 256 bx).toArray, B d] h (sl h.length 0 256 1) (h ++ [⟨Is 256 (difI bx d 256), true⟩]) := by
  (refine AC_gc [1] (difS_z_ac bx d h) (by decide) ?_ ?_ ?_; (focus (repeat (first | exact trivial | (refine And.intro ⟨_, rfl, ?_⟩ ?_; (focus first | (refine Fit_plain ?_; simp only [go_sem, ALS]; done) | exact Fit_nil rfl | exact Fit_dead | (refine Fit_eq ?_ ?_; (focus simp only [go_sem, ALS]); (focus (first | rfl | (simp only [ICS]; done) | (simp only [ICS]; rfl))))))))); (focus first | (refine renV_sl ?_; first | (rw [rhoF_new0]; rfl) | (rw [rhoF_new]; rfl) | (rw [rhoF_old]; first | assumption | omega)) | (refine renV_pt ?_; first | (rw [rhoF_new0]; rfl) | (rw [rhoF_new]; rfl) | (rw [rhoF_old]; first | assumption | omega)) | (refine renV_two ?_ ?_; (focus first | (refine ren1_sl ?_; first | (rw [rhoF_new0]; rfl) | (rw [rhoF_new]; rfl) | (rw [rhoF_old]; first | assumption | omega)) | rfl); (focus rfl)) | rfl | (refine (renV_plain ?_).symm; first | rfl | (refine plain_agg ?_; simp only [go_sem, ALS]; done))); (focus first | (simp only [wfV, wf1, wfC, LAC]; omega) | (refine wfV_two ?_ ?_; (focus simp only [wf1, wfC, LAC]; omega); (focus trivial)) | (refine plainV_wf ?_; (focus first | rfl | (refine plain_agg ?_; simp only [go_sem, ALS]; done)); done)))

theorem difJ_z_ac (bx : Nat → UInt8) (d : UInt8) (h : List Blk) : AC Tryz.prog 72 [.agg (Bs 256 bx).toArray, B d] h (sl (h.length + 1) 0 256 1) (h ++ [⟨Bs 256 bx, true⟩, ⟨Is 256 (difI bx d 256), true⟩]) := by
  (refine AC_begin (fun _ _ => Tryz.call72 _ _) Tryz.func72 rfl Tryz.ntmps72 Tryz.results72 (fun hwf => ?_); simp only [LCN, Nat.reduceAdd, Nat.reduceSub, List.replicate])
  (refine sN @repA_I ?_)
  refine WA_forP (fun k => [(6, J), (7, J), (10, .int .i64 k), (11, J), (12, J), (13, J), (14, J), (15, J), (16, J), (17, J), (18, J), (19, J), (20, J), (21, J), (22, J), (23, J), (24, J), (25, J), (26, J), (27, J)]) (fun k => [(1, ⟨Is 256 (difI bx d k), true⟩)]) (256) ?_ ?_ ?_ <;> (try simp only [PTS])
  · rw [difI_zero]
    (exact sS0)
  · intro k hk
    have hx := u8_lt (UInt8.ofNat k ^^^ d)
    have hy := u8_lt (diA bx d k)
    have hle := difP_le bx d k (diA bx d k).toNat
    (refine sN (And.intro (show bx k ^^^ bx (UInt8.ofNat k ^^^ d).toNat = diA bx d k from rfl) (And.intro (show difI bx d k (diA bx d k).toNat = ((difP bx d k (diA bx d k).toNat : Nat) : Int) from rfl) @difI_set)) ?_)
    (exact sS0)
  · (refine sN0 ?_)
    (exact sR0)
theorem difJ_ac (bx : Nat → UInt8) (d : UInt8) (h : List Blk) : AC Tryz.prog 72 [.agg (Bs 256 bx).toArray, B d] h (sl h.length 0 256 1) (h ++ [⟨Is 256 (difI bx d 256), true⟩]) := by
  (refine AC_gc [1] (difJ_z_ac bx d h) (by decide) ?_ ?_ ?_; (focus (repeat (first | exact trivial | (refine And.intro ⟨_, rfl, ?_⟩ ?_; (focus first | (refine Fit_plain ?_; simp only [go_sem, ALS]; done) | exact Fit_nil rfl | exact Fit_dead | (refine Fit_eq ?_ ?_; (focus simp only [go_sem, ALS]); (focus (first | rfl | (simp only [ICS]; done) | (simp only [ICS]; rfl))))))))); (focus first | (refine renV_sl ?_; first | (rw [rhoF_new0]; rfl) | (rw [rhoF_new]; rfl) | (rw [rhoF_old]; first | assumption | omega)) | (refine renV_pt ?_; first | (rw [rhoF_new0]; rfl) | (rw [rhoF_new]; rfl) | (rw [rhoF_old]; first | assumption | omega)) | (refine renV_two ?_ ?_; (focus first | (refine ren1_sl ?_; first | (rw [rhoF_new0]; rfl) | (rw [rhoF_new]; rfl) | (rw [rhoF_old]; first | assumption | omega)) | rfl); (focus rfl)) | rfl | (refine (renV_plain ?_).symm; first | rfl | (refine plain_agg ?_; simp only [go_sem, ALS]; done))); (focus first | (simp only [wfV, wf1, wfC, LAC]; omega) | (refine wfV_two ?_ ?_; (focus simp only [wf1, wfC, LAC]; omega); (focus trivial)) | (refine plainV_wf ?_; (focus first | rfl | (refine plain_agg ?_; simp only [go_sem, ALS]; done)); done)))

end Go.Proofs.YtenkjbkcdcionaaGreat
/- Best steps. -/
namespace Go.Proofs.YtenkjbkcdcionaaGreat
set_option linter.unusedSimpArgs false
set_option linter.unusedVariables false
set_option maxRecDepth 20000
set_option maxHeartbeats 1000000
open Go.Abs

def bestP (f : Nat → Nat) : Nat → Nat
  | 0 => 0
  | k + 1 => if f (bestP f k) < f (k + 1) then k + 1 else bestP f k
theorem bestP_le (f : Nat → Nat) : ∀ k, bestP f k ≤ k
  | 0 => Nat.le_refl 0
  | k + 1 => by have := bestP_le f k; unfold bestP; split <;> omega
theorem bestP_t {f : Nat → Nat} {k : Nat} (h : f (bestP f k) < f (k + 1)) : bestP f (k + 1) = k + 1 := by rw [bestP, if_pos h]
theorem bestP_f {f : Nat → Nat} {k : Nat} (h : ¬ f (bestP f k) < f (k + 1)) : bestP f (k + 1) = bestP f k := by rw [bestP, if_neg h]
theorem bestP_max (f : Nat → Nat) : ∀ k i, i ≤ k → f i ≤ f (bestP f k)
  | 0, i, h => by rw [show i = 0 by omega]; exact Nat.le_refl _
  | k + 1, i, h => by
    by_cases hb : f (bestP f k) < f (k + 1)
    · rw [bestP_t hb]
      rcases Nat.lt_or_ge i (k + 1) with h1 | h1
      · have := bestP_max f k i (by omega); omega
      · rw [show i = k + 1 by omega]; exact Nat.le_refl _
    · rw [bestP_f hb]
      rcases Nat.lt_or_ge i (k + 1) with h1 | h1
      · exact bestP_max f k i (by omega)
      · rw [show i = k + 1 by omega]; omega
theorem bestP_first (f : Nat → Nat) : ∀ k i, i < bestP f k → f i ≠ f (bestP f k)
  | 0, i, h => absurd h (Nat.not_lt_zero i)
  | k + 1, i, h => by
    by_cases hb : f (bestP f k) < f (k + 1)
    · rw [bestP_t hb] at h ⊢
      have := bestP_max f k i (by omega)
      omega
    · rw [bestP_f hb] at h ⊢
      exact bestP_first f k i h
theorem maxI_ac {h : List Blk} {b : Nat} {f : Nat → Nat} {r : Bool} (hb : h[b]? = some ⟨Is 256 (fun y => ((f y : Nat) : Int)), r⟩) : AC Tryz.prog 75 [sl b 0 256 1] h (.int .i64 ((f (bestP f 255) : Nat) : Int)) h := by
  (refine AC_begin (fun _ _ => Tryz.call75 _ _) Tryz.func75 rfl Tryz.ntmps75 Tryz.results75 (fun hwf => ?_); simp only [LCN, Nat.reduceAdd, Nat.reduceSub, List.replicate])
  (repeat (first | ((first | (refine And.intro ?_ ?_; focus exact PLA) | refine WA_seq (WA_region ?_) | refine WA_region ?_ | refine WA_exit ?_); try simp (maxSteps := 1000000) (disch := first | omega | rfl | decide | (simp only [LX] <;> omega)) only [go_sem, Nat.reduceAdd, Int.reduceAdd, Int.reduceSub, Int.reduceMul, BNS, hb]) | refine WA_seq ?_ | refine WA_block ?_ | (refine WA_skip ?_; try simp only [go_sem]) | (refine WA_ret ?_; try simp only [go_sem]) | refine WA_ct rfl ?_ | refine WA_cf rfl ?_))
  refine WA_forH (fun k => [(3, .int .i64 ((f (bestP f k) : Nat) : Int)), (4, .int .i64 ((k + 1 : Nat) : Int)), (12, J), (13, J), (14, J), (15, J), (16, J), (17, J), (18, J), (19, J), (20, J), (21, J), (22, J), (23, J)]) (fun k => h) (255) ?_ ?_ ?_ <;> (try simp only [PTS])
  · (refine Drop_slots (by first | exact Nat.le_refl _ | simp) ?_; focus ((try simp only [JL_same, JL_J, JL_nil, Int.reduceAdd, Nat.sub_sub, ICS, Bool.false_eq_true, if_false, if_true, bestP]); (try exact JL_refl _)))
  · intro k hk
    by_cases hx : f (bestP f k) < f (k + 1)
    · have e := bestP_t hx
      have e2 : (((f (bestP f k) : Nat) : Int) < ((f (k + 1) : Nat) : Int)) = True := eq_true (by omega)
      (repeat (first | ((first | (refine And.intro ?_ ?_; focus exact PLA) | refine WA_seq (WA_region ?_) | refine WA_region ?_ | refine WA_exit ?_); try simp (maxSteps := 1000000) (disch := first | omega | rfl | decide | (simp only [LX] <;> omega)) only [go_sem, Nat.reduceAdd, Int.reduceAdd, Int.reduceSub, Int.reduceMul, BNS, hb, gt_iff_lt, e2, if_true]) | refine WA_seq ?_ | refine WA_block ?_ | (refine WA_skip ?_; try simp only [go_sem]) | (refine WA_ret ?_; try simp only [go_sem]) | refine WA_ct rfl ?_ | refine WA_cf rfl ?_))
      (refine Drop_slots (by first | exact Nat.le_refl _ | simp) ?_; focus ((try simp only [JL_same, JL_J, JL_nil, Int.reduceAdd, Nat.sub_sub, ICS, Bool.false_eq_true, if_false, if_true, e]); (try exact JL_refl _)))
    · have e := bestP_f hx
      have e2 : (((f (bestP f k) : Nat) : Int) < ((f (k + 1) : Nat) : Int)) = False := eq_false (by omega)
      (repeat (first | ((first | (refine And.intro ?_ ?_; focus exact PLA) | refine WA_seq (WA_region ?_) | refine WA_region ?_ | refine WA_exit ?_); try simp (maxSteps := 1000000) (disch := first | omega | rfl | decide | (simp only [LX] <;> omega)) only [go_sem, Nat.reduceAdd, Int.reduceAdd, Int.reduceSub, Int.reduceMul, BNS, hb, gt_iff_lt, e2, if_false]) | refine WA_seq ?_ | refine WA_block ?_ | (refine WA_skip ?_; try simp only [go_sem]) | (refine WA_ret ?_; try simp only [go_sem]) | refine WA_ct rfl ?_ | refine WA_cf rfl ?_))
      (refine Drop_slots (by first | exact Nat.le_refl _ | simp) ?_; focus ((try simp only [JL_same, JL_J, JL_nil, Int.reduceAdd, Nat.sub_sub, ICS, Bool.false_eq_true, if_false, if_true, e]); (try exact JL_refl _)))
  · (repeat (first | ((first | (refine And.intro ?_ ?_; focus exact PLA) | refine WA_seq (WA_region ?_) | refine WA_region ?_ | refine WA_exit ?_); try simp (maxSteps := 1000000) (disch := first | omega | rfl | decide | (simp only [LX] <;> omega)) only [go_sem, Nat.reduceAdd, Int.reduceAdd, Int.reduceSub, Int.reduceMul, BNS]) | refine WA_seq ?_ | refine WA_block ?_ | (refine WA_skip ?_; try simp only [go_sem]) | (refine WA_ret ?_; try simp only [go_sem]) | refine WA_ct rfl ?_ | refine WA_cf rfl ?_))
    ((first | refine ret_nA ?_ | refine ret_sA ?_ | refine ret_fA ?_); simp (maxSteps := 1000000) (disch := first | omega | rfl | decide | (simp only [LX] <;> omega)) only [go_sem, Nat.reduceAdd, Int.reduceAdd, Int.reduceSub, Int.reduceMul, BNS]; try rfl)

theorem indexI_ac {h : List Blk} {b n q : Nat} {f : Nat → Int} {r : Bool} {v : Int} (hb : h[b]? = some ⟨Is n f, r⟩) (hn : n ≤ 1000) (hq : q < n) (he : f q = v) (hne : ∀ i, i < q → f i ≠ v) : AC Tryz.prog 74 [sl b 0 n 1, .int .i64 v] h (.int .i64 q) h := by
  (refine AC_begin (fun _ _ => Tryz.call74 _ _) Tryz.func74 rfl Tryz.ntmps74 Tryz.results74 (fun hwf => ?_); simp only [LCN, Nat.reduceAdd, Nat.reduceSub, List.replicate])
  (refine sN0 ?_)
  refine WA_forH (fun k => [(4, J), (5, J), (8, .int .i64 k), (9, J), (10, J), (11, J), (12, J), (13, J), (14, J), (15, J), (16, J), (17, J), (18, J)]) (fun k => h) (q) ?_ ?_ ?_ <;> (try simp only [PTS])
  · (exact sS0)
  · intro k hk
    have e : (v == f k) = false := by simpa using fun e => hne k hk e.symm
    (refine sN (And.intro @hb @e) ?_)
    (exact sS0)
  · have e : (v == f q) = true := by simpa using he.symm
    (refine sN (And.intro @hb @e) ?_)
    (exact sR0)

def bsF (bx d : Nat → UInt8) : Nat → UInt8 := fun i => UInt8.ofNat (bestP (difP bx (d i) 256) 255)
theorem bestS_ac {m : Nat} (h0 : 256 ≤ m) (h1 : m < 512) (r : Int) (bx mx : Nat → UInt8) {pl : Nat → UInt8} (hp : ∀ i, i < 16 → (pl i).toNat < 16) (d : Nat → UInt8) (last : Bool) (h : List Blk) :
    AC Tryz.prog 28 [.agg (Ci m bx mx pl r).toArray, .agg (Bs 16 d).toArray, .bool last] h (.agg (Bs 16 (layF m mx pl (bsF bx d) last)).toArray) h := by
  (refine AC_begin (fun _ _ => Tryz.call28 _ _) Tryz.func28 rfl Tryz.ntmps28 Tryz.results28 (fun hwf => ?_); simp only [LCN, Nat.reduceAdd, Nat.reduceSub, List.replicate])
  (refine sN0 ?_)
  refine WA_forP (fun k => [(8, .int .i64 k), (9, J), (10, J), (11, J), (13, J), (14, J), (15, J), (16, J), (17, J), (18, J), (19, J), (20, J), (21, J), (22, J), (23, J), (24, J), (25, J), (26, J), (27, J), (28, J), (29, J), (30, J), (31, J), (32, J), (33, J), (34, J), (35, J), (36, J), (37, J), (38, J), (39, J), (40, J)]) (fun k => [(3, ⟨Bs 16 (pre k (bsF bx d) fun _ => 0), true⟩)]) (16) ?_ ?_ ?_ <;> (try simp only [PTS])
  · rw [pre_zero]
    (exact sS0)
  · intro j hj
    (repeat (first | ((first | (refine And.intro ?_ ?_; focus exact PLA) | ((first | with_reducible apply callB_i | with_reducible apply callK_intro | with_reducible apply callQ_i); (focus (first | assumption | (with_reducible apply difS_ac <;> (first | assumption | rfl | (simp (disch := omega) only [go_sem]; first | done | rfl) | omega | decide | (simp; done))))); (try exact WP_au)) | refine WA_seq (WA_region ?_) | refine WA_region ?_ | refine WA_exit ?_); try simp (maxSteps := 1000000) (disch := first | omega | rfl | decide | (simp only [LX] <;> omega)) only [go_sem, Nat.reduceAdd, Int.reduceAdd, Int.reduceSub, Int.reduceMul, BNS]) | (refine (WA_rb (id := 5) [5] (SubM.refl _) mixedOk ?_); simp only [LSZ]; (repeat (first | ((first | (refine And.intro ?_ ?_; focus exact PLA) | ((first | with_reducible apply callB_i | with_reducible apply callK_intro | with_reducible apply callQ_i); (focus (first | assumption | (with_reducible apply difS_ac <;> (first | assumption | rfl | (simp (disch := omega) only [go_sem]; first | done | rfl) | omega | decide | (simp; done))))); (try exact WP_au)) | refine RTk false [0, 2, 3] 5 ?_ | refine RTk true [1, 4] 3 ?_ | refine REx 5 ?_ | refine RTk false [6, 7] 0 ?_ | refine RB_done (by decide +kernel) ?_); try simp (maxSteps := 1000000) (disch := first | omega | rfl | decide | (simp only [LX] <;> omega)) only [go_sem, Nat.reduceAdd, Int.reduceAdd, Int.reduceSub, Int.reduceMul, BNS])))) | refine WA_seq ?_ | refine WA_block ?_ | (refine WA_skip ?_; try simp only [go_sem]) | (refine WA_ret ?_; try simp only [go_sem]) | refine WA_ct rfl ?_ | refine WA_cf rfl ?_))
    generalize hf : difP bx (d j) 256 = f
    have hfi : difI bx (d j) 256 = fun y => ((f y : Nat) : Int) := by rw [← hf]; rfl
    rw [hfi]
    refine WA_forP (fun k => [(10, .int .i64 ((bestP f k : Nat) : Int)), (11, .int .i64 ((k + 1 : Nat) : Int)), (23, J), (24, J), (25, J), (26, J), (27, J), (28, J), (29, J), (30, J), (31, J), (32, J), (33, J), (34, J), (35, J), (36, J)]) (fun k => []) (255) ?_ ?_ ?_ <;> (try simp only [PTS])
    · (refine Drop_slots (by first | exact Nat.le_refl _ | simp) ?_; focus ((try simp only [JL_same, JL_J, JL_nil, Int.reduceAdd, Nat.sub_sub, ICS, Bool.false_eq_true, if_false, if_true, bestP]); (try exact JL_refl _)))
    · intro k hk
      have hle := bestP_le f k
      by_cases hx : f (bestP f k) < f (k + 1)
      · have e := bestP_t hx
        (repeat (first | ((first | (refine And.intro ?_ ?_; focus exact PLA) | refine WA_seq (WA_region ?_) | refine WA_region ?_ | refine WA_exit ?_); try simp (maxSteps := 1000000) (disch := first | omega | rfl | decide | (simp only [LX] <;> omega)) only [go_sem, Nat.reduceAdd, Int.reduceAdd, Int.reduceSub, Int.reduceMul, BNS]) | (refine WA_seq (WA_draw (id := 9) mixedOk (by kernel_rfl) ?_); simp (maxSteps := 1000000) (disch := first | omega | rfl | decide | (simp only [LX] <;> omega)) only [go_sem, Nat.reduceAdd, Int.reduceAdd, Int.reduceSub, Int.reduceMul, BNS]) | (refine WA_draw (id := 9) mixedOk (by kernel_rfl) ?_; simp (maxSteps := 1000000) (disch := first | omega | rfl | decide | (simp only [LX] <;> omega)) only [go_sem, Nat.reduceAdd, Int.reduceAdd, Int.reduceSub, Int.reduceMul, BNS]) | refine WA_seq ?_ | refine WA_block ?_ | (refine WA_skip ?_; try simp only [go_sem]) | (refine WA_ret ?_; try simp only [go_sem]) | refine WA_ct rfl ?_ | refine WA_cf rfl ?_))
        (exact sS @e)
      · have e := bestP_f hx
        (repeat (first | ((first | (refine And.intro ?_ ?_; focus exact PLA) | refine WA_seq (WA_region ?_) | refine WA_region ?_ | refine WA_exit ?_); try simp (maxSteps := 1000000) (disch := first | omega | rfl | decide | (simp only [LX] <;> omega)) only [go_sem, Nat.reduceAdd, Int.reduceAdd, Int.reduceSub, Int.reduceMul, BNS]) | (refine WA_seq (WA_draw (id := 9) mixedOk (by kernel_rfl) ?_); simp (maxSteps := 1000000) (disch := first | omega | rfl | decide | (simp only [LX] <;> omega)) only [go_sem, Nat.reduceAdd, Int.reduceAdd, Int.reduceSub, Int.reduceMul, BNS]) | (refine WA_draw (id := 9) mixedOk (by kernel_rfl) ?_; simp (maxSteps := 1000000) (disch := first | omega | rfl | decide | (simp only [LX] <;> omega)) only [go_sem, Nat.reduceAdd, Int.reduceAdd, Int.reduceSub, Int.reduceMul, BNS]) | refine WA_seq ?_ | refine WA_block ?_ | (refine WA_skip ?_; try simp only [go_sem]) | (refine WA_ret ?_; try simp only [go_sem]) | refine WA_ct rfl ?_ | refine WA_cf rfl ?_))
        (exact sS @e)
    · have hbs : UInt8.ofNat (bestP f 255) = bsF bx d j := by rw [← hf]; rfl
      (refine sN (And.intro @hbs @upd_pre) ?_)
      (exact gC [0, 1, 2, 3])
  · (refine sW @Bs_pre (layS_ac h0 h1 _ _ _ hp) ?_)
    (exact sR0)

theorem bestI_ac {m : Nat} {h : List Blk} {be bt : Nat} {bx ib pl ip mx : Nat → UInt8} {v5 : Value} {r : Int} {re rt : Bool} (he : h[be]? = some ⟨En bx ib pl ip (pt bt 0) v5 r, re⟩) (ht : h[bt]? = some ⟨Bs 4096 (mixT m mx), rt⟩)
    (hp : ∀ i, i < 16 → (pl i).toNat < 16) (d : Nat → UInt8) (last : Bool) :
    AC Tryz.prog 36 [pt be 0, .agg (Bs 16 d).toArray, .bool last] h (.agg (Bs 16 (layF m mx pl (bsF bx d) last)).toArray) h := by
  have hbe := blt he
  have hbt := blt ht
  (refine AC_begin (fun _ _ => Tryz.call36 _ _) Tryz.func36 rfl Tryz.ntmps36 Tryz.results36 (fun hwf => ?_); simp only [LCN, Nat.reduceAdd, Nat.reduceSub, List.replicate])
  (refine sN0 ?_)
  refine WA_forP (fun k => [(8, J), (9, J), (11, .int .i64 k), (12, J), (13, J), (14, J), (15, J), (16, J), (17, J), (18, J), (19, J), (20, J), (21, J), (22, J), (23, J), (24, J), (25, J), (26, J), (27, J), (28, J), (29, J)]) (fun k => [(2, ⟨Bs 16 (pre k (bsF bx d) fun _ => 0), true⟩)]) (16) ?_ ?_ ?_ <;> (try simp only [PTS])
  · rw [pre_zero]
    (exact sS0)
  · intro j hj
    have hbs : UInt8.ofNat (bestP (difP bx (d j) 256) 255) = bsF bx d j := rfl
    have hmx : ∀ {h : List Blk} {b : Nat} {r : Bool}, h[b]? = some ⟨Is 256 (difI bx (d j) 256), r⟩ → AC Tryz.prog 75 [sl b 0 256 1] h (.int .i64 ((difP bx (d j) 256 (bestP (difP bx (d j) 256) 255) : Nat) : Int)) h := fun hb => maxI_ac (f := difP bx (d j) 256) hb
    have hix : ∀ {h : List Blk} {b : Nat} {r : Bool}, h[b]? = some ⟨Is 256 (difI bx (d j) 256), r⟩ → AC Tryz.prog 74 [sl b 0 256 1, .int .i64 ((difP bx (d j) 256 (bestP (difP bx (d j) 256) 255) : Nat) : Int)] h (.int .i64 ((bestP (difP bx (d j) 256) 255 : Nat) : Int)) h := fun hb =>
      indexI_ac hb (by omega) (Nat.lt_of_le_of_lt (bestP_le _ 255) (by omega)) rfl (fun i hi e => bestP_first (difP bx (d j) 256) 255 i hi (Int.ofNat.inj e))
    (repeat (first | ((first | (refine And.intro ?_ ?_; focus exact PLA) | ((first | with_reducible apply callB_i | with_reducible apply callK_intro | with_reducible apply callQ_i); (focus (first | assumption | (with_reducible apply difJ_ac <;> (first | assumption | rfl | (simp (disch := omega) only [go_sem]; first | done | rfl) | omega | decide | (simp; done))) | ((first | with_reducible apply hmx | with_reducible apply hix) <;> (first | assumption | (refine look_old ?_ _; assumption) | rfl | (simp (disch := omega) only [go_sem]; first | done | rfl) | omega | decide | (simp; done))))); (try exact WP_au)) | refine WA_seq (WA_region ?_) | refine WA_region ?_ | refine WA_exit ?_); try simp (maxSteps := 1000000) (disch := first | omega | rfl | decide | (simp only [LX] <;> omega)) only [go_sem, Nat.reduceAdd, Int.reduceAdd, Int.reduceSub, Int.reduceMul, BNS, look_old he, hbs, upd_pre]) | (refine (WA_rb (id := 5) [7] (SubM.refl _) mixedOk ?_); simp only [LSZ]; (repeat (first | ((first | (refine And.intro ?_ ?_; focus exact PLA) | ((first | with_reducible apply callB_i | with_reducible apply callK_intro | with_reducible apply callQ_i); (focus (first | assumption | (with_reducible apply difJ_ac <;> (first | assumption | rfl | (simp (disch := omega) only [go_sem]; first | done | rfl) | omega | decide | (simp; done))) | ((first | with_reducible apply hmx | with_reducible apply hix) <;> (first | assumption | (refine look_old ?_ _; assumption) | rfl | (simp (disch := omega) only [go_sem]; first | done | rfl) | omega | decide | (simp; done))))); (try exact WP_au)) | refine RTk false [0, 1, 2, 4, 5] 4 ?_ | refine RTk true [3, 6] 2 ?_ | refine REx 7 ?_ | refine RTk false [8] 0 ?_ | refine RB_done (by decide +kernel) ?_); try simp (maxSteps := 1000000) (disch := first | omega | rfl | decide | (simp only [LX] <;> omega)) only [go_sem, Nat.reduceAdd, Int.reduceAdd, Int.reduceSub, Int.reduceMul, BNS, look_old he, hbs, upd_pre])))) | refine WA_seq ?_ | refine WA_block ?_ | (refine WA_skip ?_; try simp only [go_sem]) | (refine WA_ret ?_; try simp only [go_sem]) | refine WA_ct rfl ?_ | refine WA_cf rfl ?_))
    (exact gC [0, 1, 2])
  · (refine sY @Bs_pre @layI_ac ?_)
    (exact sR0)

end Go.Proofs.YtenkjbkcdcionaaGreat
/- Draws for the law on layers. -/
namespace Go.Proofs.YtenkjbkcdcionaaGreat
set_option linter.unusedSimpArgs false
set_option linter.unusedVariables false
set_option maxRecDepth 20000
set_option maxHeartbeats 1000000
open Go.Abs

set_option maxHeartbeats 8000000 in
theorem l05Draw_aft {h : List Blk} {b : Nat} {cv : Value} (s : SrcAt h b cv) :
    ∃ (m : Int) (bx mx pl d : Nat → UInt8) (r : Int) (h' : List Blk), (-1 ≤ r ∧ r ≤ 1000) ∧ Aft h h' b cv ∧ AC Tryz.prog 25 [pt b 0] h (.tuple #[.agg (Ci m bx mx pl r).toArray, .agg (Bs 16 d).toArray]) h' := by
  have hbl := s.lt
  have a0 := s.more [⟨Ci 0 zeroF zeroF zeroF 0, true⟩, ⟨Bs 16 zeroF, true⟩]
  obtain ⟨m, bx, mx, pl, r, h1, hr, a1, c1⟩ := l04Spoil_aft a0.src
  have hR1 := a1.keep h.length ⟨Ci 0 zeroF zeroF zeroF 0, true⟩ (by omega) (by simp)
  have hO1 := a1.keep (h.length + 1) ⟨Bs 16 zeroF, true⟩ (by omega) (by simp)
  have l1 := blt hO1
  have a2 := a1.src.more [⟨Ci m bx mx pl r, true⟩, ⟨Bs 16 zeroF, true⟩]
  obtain ⟨q, h2, hq, a3, c2⟩ := next_aft a2.src (N := 4) (by omega) (by omega)
  have hC2 := a3.keep h1.length ⟨Ci m bx mx pl r, true⟩ (by omega) (by simp)
  have hD2 := a3.keep (h1.length + 1) ⟨Bs 16 zeroF, true⟩ (by omega) (by simp)
  have hR2 := (a2.trans a3).keep _ _ (by omega) hR1
  have hO2 := (a2.trans a3).keep _ _ (by omega) hO1
  have A3 := ((a0.trans a1).trans a2).trans a3
  obtain ⟨st, e0, hI, hRt⟩ := seq_ex (S := List Blk × (Nat → UInt8)) (n := q)
    (I := fun _ s => s.1[h1.length + 1]? = some ⟨Bs 16 s.2, true⟩ ∧ s.1[h1.length]? = some ⟨Ci m bx mx pl r, true⟩ ∧ s.1[h.length]? = some ⟨Ci 0 zeroF zeroF zeroF 0, true⟩ ∧ s.1[h.length + 1]? = some ⟨Bs 16 zeroF, true⟩ ∧ Aft h s.1 b cv)
    (R := fun _ s t => ∃ (i z : Nat) (M1 M2 : List Blk), i < 16 ∧ z < 256 ∧ AC Tryz.prog 26 [pt b 0, .int .i64 ((16 : Nat) : Int)] s.1 (.int .i64 i) M1 ∧ AC Tryz.prog 26 [pt b 0, .int .i64 ((256 : Nat) : Int)] M1 (.int .i64 z) M2 ∧ M2[h1.length + 1]? = some ⟨Bs 16 s.2, true⟩ ∧ t = (M2.set (h1.length + 1) ⟨Bs 16 (upd s.2 i (UInt8.ofNat z)), true⟩, upd s.2 i (UInt8.ofNat z)))
    (h2, zeroF) ⟨hD2, hC2, hR2, hO2, A3⟩ (fun k hk s0 ⟨i1, i2, i3, i4, i5⟩ => by
      obtain ⟨i, M1, hi, r1, d1⟩ := next_aft i5.src (N := 16) (by omega) (by omega)
      obtain ⟨z, M2, hz, r2, d2⟩ := next_aft r1.src (N := 256) (by omega) (by omega)
      have a := r1.trans r2
      have j1 := a.keep _ _ (by omega) i1
      have j2 := a.keep _ _ (by omega) i2
      have j3 := a.keep _ _ (by omega) i3
      have j4 := a.keep _ _ (by omega) i4
      exact ⟨_, ⟨look_set (blt j1), set_at j2 (by omega), set_at j3 (by omega), set_at j4 (by omega), (i5.trans a).set s (by omega) _⟩, i, z, M1, M2, hi, hz, d1, d2, j1, rfl⟩)
  obtain ⟨f1, f2, f3, f4, f5⟩ := hI q (Nat.le_refl _)
  obtain ⟨dq, hdq⟩ : ∃ mq, mq = (st q).2 := ⟨_, rfl⟩
  obtain ⟨Mq, hMq⟩ : ∃ Mq, Mq = (st q).1 := ⟨_, rfl⟩
  rw [← hdq, ← hMq] at f1
  rw [← hMq] at f2 f3 f4 f5
  have g4 := set_at (x := ⟨Ci m bx mx pl r, true⟩) f4 (show h.length ≠ h.length + 1 by omega)
  have g3 := set_at (x := ⟨Bs 16 dq, true⟩) (look_set (x := ⟨Ci m bx mx pl r, true⟩) (blt f3)) (show h.length + 1 ≠ h.length by omega)
  have g1 := set_at (x := ⟨Ci m bx mx pl r, true⟩) f1 (show h.length ≠ h1.length + 1 by omega)
  have q0 := set_at (x := dead) (set_at (x := dead) f2 (show h.length ≠ h1.length by omega)) (show h.length + 1 ≠ h1.length by omega)
  have q1 := set_at (x := dead) (set_at (x := dead) f1 (show h.length ≠ h1.length + 1 by omega)) (show h.length + 1 ≠ h1.length + 1 by omega)
  have p0 := set_at (x := dead) (look_set (x := dead) (blt f3)) (show h.length + 1 ≠ h.length by omega)
  have p1 := look_set (x := dead) (blt (set_at (x := dead) f4 (show h.length ≠ h.length + 1 by omega)))
  have hlen := f5.len
  refine ⟨m, bx, mx, pl, dq, r, (Mq.set h.length ⟨Ci m bx mx pl r, true⟩).set (h.length + 1) ⟨Bs 16 dq, true⟩, hr, (f5.set s (by omega) _).set s (by omega) _, ?_⟩
  (refine AC_begin (fun _ _ => Tryz.call25 _ _) Tryz.func25 rfl Tryz.ntmps25 Tryz.results25 (fun hwf => ?_); simp only [LCN, Nat.reduceAdd, Nat.reduceSub, List.replicate])
  (refine sW (And.intro @Ci_stC @Ci_splice_all) (And.intro @c1 @c2) ?_)
  refine WA_forH (fun k => [(6, .int .i64 ((q - k : Nat))), (12, J), (13, J), (14, J), (15, J), (16, J), (17, J), (18, J), (19, J), (20, J), (21, J)]) (fun k => (st k).1) (q) ?_ ?_ ?_ <;> (try simp only [PTS])
  · have e1 : (st 0).1 = h2 := by rw [e0]
    have l1 := A3.len
    rw [e1]
    (exact sA0)
  · intro k hk
    obtain ⟨i, z, M1, M2, hi, hz, d1, d2, j1, e⟩ := hRt k hk
    have l1 := (hI (k + 1) hk).2.2.2.2.len
    have hgo : decide (0 < ((q - k : Nat) : Int)) = true := decide_eq_true (by omega)
    have hst : IntKind.i64.wrap (((q - k : Nat) : Int) - 1) = ((q - (k + 1) : Nat) : Int) := by
      rw [show ((q - k : Nat) : Int) - 1 = ((q - (k + 1) : Nat) : Int) by omega]; exact wrap_N (by omega)
    rw [e] at l1 ⊢
    (refine sW (And.intro @j1 (And.intro @hgo @hst)) (And.intro @d1 @d2) ?_)
    (exact sA0)
  · have hgo : decide (0 < ((q - q : Nat) : Int)) = false := decide_eq_false (by omega)
    rw [← hMq]
    (refine sN (And.intro @Nat.sub_self (And.intro @Int.natCast_zero @Int.lt_irrefl)) ?_)
    first | refine WA_seq (WA_rb (id := 6) [3] (SubM.set (SubM.set (SubM.refl _) h.length) (h.length + 1)) mixedOk ?_) | refine WA_rb (id := 6) [3] (SubM.set (SubM.set (SubM.refl _) h.length) (h.length + 1)) mixedOk ?_
    simp only [LSZ]
    refine RTk true [0, 1] 2 ?_
    try simp (maxSteps := 1000000) (disch := first | omega | rfl | decide | (simp only [List.length_cons, List.length_nil, List.length_append, Bs_length] <;> omega)) only [go_sem, Nat.reduceAdd, Ci_stC, Ci_splice_all, f1, f2, f3, g1, g4, q0, q1, p0, p1]
    refine RB_keep 2 _ (by rfl) (by decide +kernel) (by simp (maxSteps := 1000000) (disch := first | omega | rfl | decide | (simp only [List.length_cons, List.length_nil, List.length_append, Bs_length] <;> omega)) only [go_sem, Nat.reduceAdd, Ci_stC, Ci_splice_all, f1, f2, f3, g1, g4, q0, q1, p0, p1]) ?_
    try simp (maxSteps := 1000000) (disch := first | omega | rfl | decide | (simp only [List.length_cons, List.length_nil, List.length_append, Bs_length] <;> omega)) only [go_sem, Nat.reduceAdd, Ci_stC, Ci_splice_all, f1, f2, f3, g1, g4, q0, q1, p0, p1]
    refine REx 3 ?_
    try simp (maxSteps := 1000000) (disch := first | omega | rfl | decide | (simp only [List.length_cons, List.length_nil, List.length_append, Bs_length] <;> omega)) only [go_sem, Nat.reduceAdd, Ci_stC, Ci_splice_all, f1, f2, f3, g1, g4, q0, q1, p0, p1]
    refine RB_done (by decide +kernel) ?_
    try simp (maxSteps := 1000000) (disch := first | omega | rfl | decide | (simp only [List.length_cons, List.length_nil, List.length_append, Bs_length] <;> omega)) only [go_sem, Nat.reduceAdd, Ci_stC, Ci_splice_all, f1, f2, f3, g1, g4, q0, q1, p0, p1]
    (refine sN0 ?_)
    refine ret_full (by first | exact .inr rfl | exact .inl rfl) (by simpa using hlen) ?_
    simp (maxSteps := 1000000) (disch := first | omega | rfl | decide | (simp only [LX] <;> omega)) only [go_sem, Nat.reduceAdd, Int.reduceAdd, Int.reduceSub, Int.reduceMul, BNS, g3, look_set (blt g4)]
    try rfl

end Go.Proofs.YtenkjbkcdcionaaGreat
/- The keys of rounds. -/
namespace Go.Proofs.YtenkjbkcdcionaaGreat
set_option linter.unusedSimpArgs false
set_option linter.unusedVariables false
set_option maxRecDepth 20000
set_option maxHeartbeats 1000000
open Go.Abs

def nkP (bx y : Nat → UInt8) (rb : UInt8) : Nat → Nat → UInt8
  | 0 => y
  | j + 1 => if j = 0 then upd y 0 (y 0 ^^^ bx (y 15 ^^^ rb).toNat) else upd (nkP bx y rb j) j (nkP bx y rb j j ^^^ bx (nkP bx y rb j (j - 1)).toNat)
def nextF (bx y : Nat → UInt8) (rb : UInt8) : Nat → UInt8 := nkP bx y rb 16
theorem nkP_zero (bx y : Nat → UInt8) (rb : UInt8) : nkP bx y rb 0 = y := rfl
theorem nkP_first (bx y : Nat → UInt8) (rb : UInt8) : upd y 0 (y 0 ^^^ bx (y 15 ^^^ rb).toNat) = nkP bx y rb 1 := rfl
theorem nkP_step (bx y : Nat → UInt8) (rb : UInt8) {j : Nat} (h : j ≠ 0) : upd (nkP bx y rb j) j (nkP bx y rb j j ^^^ bx (nkP bx y rb j (j - 1)).toNat) = nkP bx y rb (j + 1) := by
  rw [nkP, if_neg h]
theorem nextS_ac (bx y : Nat → UInt8) (r : Int) (h : List Blk) : AC Tryz.prog 108 [.agg (Bs 256 bx).toArray, .agg (Bs 16 y).toArray, .int .i64 r] h (.agg (Bs 16 (nextF bx y (toB r))).toArray) h := by
  (refine AC_begin (fun _ _ => Tryz.call108 _ _) Tryz.func108 rfl Tryz.ntmps108 Tryz.results108 (fun hwf => ?_); simp only [LCN, Nat.reduceAdd, Nat.reduceSub, List.replicate])
  (refine sN0 ?_)
  refine WA_forP (fun k => [(7, .int .i64 k), (8, J), (9, J), (10, J), (11, J), (12, J), (13, J), (14, J), (15, J), (16, J), (17, J), (18, J), (19, J), (20, J), (21, J), (22, J), (23, J), (24, J), (25, J), (26, J), (27, J), (28, J), (29, J), (30, J), (31, J), (32, J)]) (fun k => [(1, ⟨Bs 16 (nkP bx y (toB r) k), true⟩)]) (16) ?_ ?_ ?_ <;> (try simp only [PTS])
  · rw [nkP_zero]
    (exact sS0)
  · intro j hj
    by_cases h0 : j = 0
    · subst h0
      have hx := u8_lt (y 15 ^^^ toB r)
      rw [nkP_zero]
      (repeat (first | ((first | (refine And.intro ?_ ?_; focus exact PLA) | refine WA_seq (WA_region ?_) | refine WA_region ?_ | refine WA_exit ?_); try simp (maxSteps := 1000000) (disch := first | omega | rfl | decide | (simp only [LX] <;> omega)) only [go_sem, Nat.reduceAdd, Int.reduceAdd, Int.reduceSub, Int.reduceMul, BNS, show Int.tmod 15 16 = 15 from rfl, show (15 : Int).toNat = 15 from rfl, show (0 + 15) % 16 = 15 from rfl, beq_self_eq_true, nkP_first]) | (refine (WA_rb (id := 7) [9] (SubM.refl _) mixedOk ?_); simp only [LSZ]; (repeat (first | ((first | (refine And.intro ?_ ?_; focus exact PLA) | refine RTk false [0, 1, 2, 4, 5] 5 ?_ | refine RTk true [3, 6] 3 ?_ | refine RTk false [7, 8] 1 ?_ | refine REx 9 ?_ | refine RB_done (by decide +kernel) ?_); try simp (maxSteps := 1000000) (disch := first | omega | rfl | decide | (simp only [LX] <;> omega)) only [go_sem, Nat.reduceAdd, Int.reduceAdd, Int.reduceSub, Int.reduceMul, BNS, show Int.tmod 15 16 = 15 from rfl, show (15 : Int).toNat = 15 from rfl, show (0 + 15) % 16 = 15 from rfl, beq_self_eq_true, nkP_first])))) | refine WA_seq ?_ | refine WA_block ?_ | (refine WA_skip ?_; try simp only [go_sem]) | (refine WA_ret ?_; try simp only [go_sem]) | refine WA_ct rfl ?_ | refine WA_cf rfl ?_))
      (exact sS0)
    · have hb : (j == 0) = false := by simpa using h0
      have hx := u8_lt (nkP bx y (toB r) j (j - 1))
      (repeat (first | ((first | (refine And.intro ?_ ?_; focus exact PLA) | refine WA_seq (WA_region ?_) | refine WA_region ?_ | refine WA_exit ?_); try simp (maxSteps := 1000000) (disch := first | omega | rfl | decide | (simp only [LX] <;> omega)) only [go_sem, Nat.reduceAdd, Int.reduceAdd, Int.reduceSub, Int.reduceMul, BNS, show (j + 15) % 16 = j - 1 by omega, hb, nkP_step bx y (toB r) h0]) | (refine (WA_rb (id := 7) [9] (SubM.refl _) mixedOk ?_); simp only [LSZ]; (repeat (first | ((first | (refine And.intro ?_ ?_; focus exact PLA) | refine RTk false [0, 1, 2, 4, 5] 5 ?_ | refine RTk true [3, 6] 3 ?_ | refine RTk false [7, 8] 1 ?_ | refine REx 9 ?_ | refine RB_done (by decide +kernel) ?_); try simp (maxSteps := 1000000) (disch := first | omega | rfl | decide | (simp only [LX] <;> omega)) only [go_sem, Nat.reduceAdd, Int.reduceAdd, Int.reduceSub, Int.reduceMul, BNS, show (j + 15) % 16 = j - 1 by omega, hb, nkP_step bx y (toB r) h0])))) | refine WA_seq ?_ | refine WA_block ?_ | (refine WA_skip ?_; try simp only [go_sem]) | (refine WA_ret ?_; try simp only [go_sem]) | refine WA_ct rfl ?_ | refine WA_cf rfl ?_))
      (exact sS0)
  · (refine sN0 ?_)
    (exact sR (show nkP bx y (toB r) 16 = nextF bx y (toB r) from rfl))

theorem nextI_ac {h : List Blk} {be : Nat} {bx ib pl ip : Nat → UInt8} {v4 v5 : Value} {rr : Int} {re : Bool} (he : h[be]? = some ⟨En bx ib pl ip v4 v5 rr, re⟩) (y : Nat → UInt8) (r : Int) :
    AC Tryz.prog 85 [pt be 0, .agg (Bs 16 y).toArray, .int .i64 r] h (.agg (Bs 16 (nextF bx y (toB r))).toArray) h := by
  have hbe := blt he
  have hx0 := u8_lt (y 15 ^^^ toB r)
  (refine AC_begin (fun _ _ => Tryz.call85 _ _) Tryz.func85 rfl Tryz.ntmps85 Tryz.results85 (fun hwf => ?_); simp only [LCN, Nat.reduceAdd, Nat.reduceSub, List.replicate])
  (repeat (first | ((first | (refine And.intro ?_ ?_; focus exact PLA) | refine WA_seq (WA_region ?_) | refine WA_region ?_ | refine WA_exit ?_); try simp (maxSteps := 1000000) (disch := first | omega | rfl | decide | (simp only [LX] <;> omega)) only [go_sem, Nat.reduceAdd, Int.reduceAdd, Int.reduceSub, Int.reduceMul, BNS, look_old he, nkP_first]) | (refine (WA_rb (id := 1) [14] (SubM.refl _) mixedOk ?_); simp only [LSZ]; (repeat (first | ((first | (refine And.intro ?_ ?_; focus exact PLA) | refine RTk false [0, 2, 3, 5, 6, 8, 9] 8 ?_ | refine RTk true [1, 4] 6 ?_ | refine RTk false [7, 10] 4 ?_ | refine RTk true [11] 3 ?_ | refine RTk false [12, 13] 1 ?_ | refine REx 14 ?_ | refine RB_done (by decide +kernel) ?_); try simp (maxSteps := 1000000) (disch := first | omega | rfl | decide | (simp only [LX] <;> omega)) only [go_sem, Nat.reduceAdd, Int.reduceAdd, Int.reduceSub, Int.reduceMul, BNS, look_old he, nkP_first])))) | refine WA_seq ?_ | refine WA_block ?_ | (refine WA_skip ?_; try simp only [go_sem]) | (refine WA_ret ?_; try simp only [go_sem]) | refine WA_ct rfl ?_ | refine WA_cf rfl ?_))
  refine WA_forP (fun k => [(7, .int .i64 ((k + 1 : Nat) : Int)), (22, J), (23, J), (24, J), (25, J), (26, J), (27, J), (28, J), (29, J), (30, J), (31, J), (32, J), (33, J), (34, J), (35, J), (36, J), (37, J), (38, J), (39, J)]) (fun k => [(0, ⟨Bs 16 (nkP bx y (toB r) (k + 1)), true⟩)]) (15) ?_ ?_ ?_ <;> (try simp only [PTS])
  · (exact sS0)
  · intro j hj
    have hx := u8_lt (nkP bx y (toB r) (j + 1) j)
    have hs := nkP_step bx y (toB r) (j := j + 1) (by omega)
    rw [show j + 1 - 1 = j by omega] at hs
    (repeat (first | ((first | (refine And.intro ?_ ?_; focus exact PLA) | refine WA_seq (WA_region ?_) | refine WA_region ?_ | refine WA_exit ?_); try simp (maxSteps := 1000000) (disch := first | omega | rfl | decide | (simp only [LX] <;> omega)) only [go_sem, Nat.reduceAdd, Int.reduceAdd, Int.reduceSub, Int.reduceMul, BNS, look_old he, show j + 1 - 1 = j by omega, hs]) | (refine (WA_rb (id := 5) [14] (SubM.refl _) mixedOk ?_); simp only [LSZ]; (repeat (first | ((first | (refine And.intro ?_ ?_; focus exact PLA) | refine RTk false [0, 1, 3, 4, 5, 6, 8, 9] 7 ?_ | refine RTk true [2, 7] 5 ?_ | refine RTk false [10] 4 ?_ | refine RTk true [11] 3 ?_ | refine RTk false [12, 13] 1 ?_ | refine REx 14 ?_ | refine RB_done (by decide +kernel) ?_); try simp (maxSteps := 1000000) (disch := first | omega | rfl | decide | (simp only [LX] <;> omega)) only [go_sem, Nat.reduceAdd, Int.reduceAdd, Int.reduceSub, Int.reduceMul, BNS, look_old he, show j + 1 - 1 = j by omega, hs])))) | refine WA_seq ?_ | refine WA_block ?_ | (refine WA_skip ?_; try simp only [go_sem]) | (refine WA_ret ?_; try simp only [go_sem]) | refine WA_ct rfl ?_ | refine WA_cf rfl ?_))
    (exact sS0)
  · (refine sN0 ?_)
    (exact sR (show nkP bx y (toB r) (15 + 1) = nextF bx y (toB r) from rfl))

def kyF (bx y : Nat → UInt8) : Nat → Nat → UInt8
  | 0 => y
  | r + 1 => nextF bx (kyF bx y r) (UInt8.ofNat (r + 1))
def keysF (bx y : Nat → UInt8) : Nat → UInt8 := fun i => kyF bx y (i / 16) (i % 16)
theorem keysF_zero (bx y : Nat → UInt8) : Bs ((0 + 1) * 16) (keysF bx y) = Bs 16 y := Bs_congr fun i hi => by
  unfold keysF; rw [show i / 16 = 0 by omega, show i % 16 = i by omega]; rfl
theorem Bs_snoc16 {m z : Nat} {F g : Nat → UInt8} (h : ∀ t, t < z → g t = F (m + t)) : Bs m F ++ Bs z g = Bs (m + z) F := by
  apply List.ext_getElem?
  intro i
  rw [List.getElem?_append, Bs_length]
  by_cases h1 : i < m
  · rw [if_pos h1, Bs_get h1, Bs_get (by omega)]
  · rw [if_neg h1]
    by_cases h2 : i < m + z
    · rw [Bs_get (by omega), Bs_get h2, h _ (by omega)]; congr 3; omega
    · rw [List.getElem?_eq_none (by rw [Bs_length]; omega), List.getElem?_eq_none (by rw [Bs_length]; omega)]
theorem keysF_snoc (bx y : Nat → UInt8) (k : Nat) : Bs ((k + 1) * 16) (keysF bx y) ++ Bs 16 (kyF bx y (k + 1)) = Bs ((k + 1 + 1) * 16) (keysF bx y) := by
  rw [show (k + 1 + 1) * 16 = (k + 1) * 16 + 16 by omega]
  exact Bs_snoc16 fun t ht => by unfold keysF; rw [show ((k + 1) * 16 + t) / 16 = k + 1 by omega, show ((k + 1) * 16 + t) % 16 = t by omega]
theorem keysS0_ac (m r : Int) (bx mx pl y : Nat → UInt8) {n : Nat} (hn : n ≤ 1000) (h : List Blk) : AC Tryz.prog 88 [.agg (Ci m bx mx pl r).toArray, .agg (Bs 16 y).toArray, .int .i64 n] h (sl (h.length + 2) 0 (n + 1) 16)
    (h ++ [⟨Ci m bx mx pl r, true⟩, ⟨Bs 16 (kyF bx y n), true⟩, ⟨Bs ((n + 1) * 16) (keysF bx y), true⟩]) := by
  (refine AC_begin (fun _ _ => Tryz.call88 _ _) Tryz.func88 rfl Tryz.ntmps88 Tryz.results88 (fun hwf => ?_); simp only [LCN, Nat.reduceAdd, Nat.reduceSub, List.replicate])
  (refine sN @lit1 ?_)
  refine WA_forP (fun k => [(7, sl (h.length + 2) 0 (k + 1) 16), (8, .int .i64 ((k + 1 : Nat) : Int)), (10, J), (11, J), (12, J), (13, J), (14, J), (15, J), (16, J), (17, J), (18, J), (19, J), (20, J), (21, J), (22, J), (23, J), (24, J)]) (fun k => [(1, ⟨Bs 16 (kyF bx y k), true⟩), (2, ⟨Bs ((k + 1) * 16) (keysF bx y), true⟩)]) (n) ?_ ?_ ?_ <;> (try simp only [PTS])
  · rw [keysF_zero, show kyF bx y 0 = y from rfl]
    (exact sS0)
  · intro j hj
    (refine sW (And.intro @lit1 (show nextF bx (kyF bx y j) (UInt8.ofNat (j + 1)) = kyF bx y (j + 1) from rfl)) @nextS_ac ?_)
    (exact gCE @keysF_snoc [0, 1, 4])
  · (refine sN0 ?_)
    (exact sR0)
theorem keysS_ac (m r : Int) (bx mx pl y : Nat → UInt8) {n : Nat} (hn : n ≤ 1000) (h : List Blk) : AC Tryz.prog 88 [.agg (Ci m bx mx pl r).toArray, .agg (Bs 16 y).toArray, .int .i64 n] h (sl h.length 0 (n + 1) 16)
    (h ++ [⟨Bs ((n + 1) * 16) (keysF bx y), true⟩]) := by
  (refine AC_gc [2] (keysS0_ac m r bx mx pl y hn h) (by decide) ?_ ?_ ?_; (focus (repeat (first | exact trivial | (refine And.intro ⟨_, rfl, ?_⟩ ?_; (focus first | (refine Fit_plain ?_; simp only [go_sem, ALS]; done) | exact Fit_nil rfl | exact Fit_dead | (refine Fit_eq ?_ ?_; (focus simp only [go_sem, ALS]); (focus (first | rfl | (simp only [ICS]; done) | (simp only [ICS]; rfl))))))))); (focus first | (refine renV_sl ?_; first | (rw [rhoF_new0]; rfl) | (rw [rhoF_new]; rfl) | (rw [rhoF_old]; first | assumption | omega)) | (refine renV_pt ?_; first | (rw [rhoF_new0]; rfl) | (rw [rhoF_new]; rfl) | (rw [rhoF_old]; first | assumption | omega)) | (refine renV_two ?_ ?_; (focus first | (refine ren1_sl ?_; first | (rw [rhoF_new0]; rfl) | (rw [rhoF_new]; rfl) | (rw [rhoF_old]; first | assumption | omega)) | rfl); (focus rfl)) | rfl | (refine (renV_plain ?_).symm; first | rfl | (refine plain_agg ?_; simp only [go_sem, ALS]; done))); (focus first | (simp only [wfV, wf1, wfC, LAC]; omega) | (refine wfV_two ?_ ?_; (focus simp only [wf1, wfC, LAC]; omega); (focus trivial)) | (refine plainV_wf ?_; (focus first | rfl | (refine plain_agg ?_; simp only [go_sem, ALS]; done)); done)))

theorem keysI0_ac {h : List Blk} {be : Nat} {bx ib pl ip : Nat → UInt8} {v4 v5 : Value} {rr : Int} {re : Bool} (he : h[be]? = some ⟨En bx ib pl ip v4 v5 rr, re⟩) (y : Nat → UInt8) {n : Nat} (hn : n ≤ 1000) :
    AC Tryz.prog 51 [pt be 0, .agg (Bs 16 y).toArray, .int .i64 n] h (sl (h.length + 1) 0 (n + 1) 16) (h ++ [⟨Bs 16 (kyF bx y n), true⟩, ⟨Bs ((n + 1) * 16) (keysF bx y), true⟩]) := by
  have hbe := blt he
  (refine AC_begin (fun _ _ => Tryz.call51 _ _) Tryz.func51 rfl Tryz.ntmps51 Tryz.results51 (fun hwf => ?_); simp only [LCN, Nat.reduceAdd, Nat.reduceSub, List.replicate])
  (refine sN @lit1 ?_)
  refine WA_forP (fun k => [(7, sl (h.length + 1) 0 (k + 1) 16), (8, .int .i64 ((k + 1 : Nat) : Int)), (10, J), (11, J), (12, J), (13, J), (14, J), (15, J), (16, J), (17, J), (18, J), (19, J), (20, J), (21, J), (22, J), (23, J)]) (fun k => [(0, ⟨Bs 16 (kyF bx y k), true⟩), (1, ⟨Bs ((k + 1) * 16) (keysF bx y), true⟩)]) (n) ?_ ?_ ?_ <;> (try simp only [PTS])
  · rw [keysF_zero, show kyF bx y 0 = y from rfl]
    (exact sS0)
  · intro j hj
    (refine sY (And.intro @lit1 (show nextF bx (kyF bx y j) (UInt8.ofNat (j + 1)) = kyF bx y (j + 1) from rfl)) @nextI_ac ?_)
    (exact gCE @keysF_snoc [0, 3])
  · (refine sN0 ?_)
    (exact sR0)
theorem keysI_ac {h : List Blk} {be : Nat} {bx ib pl ip : Nat → UInt8} {v4 v5 : Value} {rr : Int} {re : Bool} (he : h[be]? = some ⟨En bx ib pl ip v4 v5 rr, re⟩) (y : Nat → UInt8) {n : Nat} (hn : n ≤ 1000) :
    AC Tryz.prog 51 [pt be 0, .agg (Bs 16 y).toArray, .int .i64 n] h (sl h.length 0 (n + 1) 16) (h ++ [⟨Bs ((n + 1) * 16) (keysF bx y), true⟩]) := by
  (refine AC_gc [1] (keysI0_ac he y hn) (by decide) ?_ ?_ ?_; (focus (repeat (first | exact trivial | (refine And.intro ⟨_, rfl, ?_⟩ ?_; (focus first | (refine Fit_plain ?_; simp only [go_sem, ALS]; done) | exact Fit_nil rfl | exact Fit_dead | (refine Fit_eq ?_ ?_; (focus simp only [go_sem, ALS]); (focus (first | rfl | (simp only [ICS]; done) | (simp only [ICS]; rfl))))))))); (focus first | (refine renV_sl ?_; first | (rw [rhoF_new0]; rfl) | (rw [rhoF_new]; rfl) | (rw [rhoF_old]; first | assumption | omega)) | (refine renV_pt ?_; first | (rw [rhoF_new0]; rfl) | (rw [rhoF_new]; rfl) | (rw [rhoF_old]; first | assumption | omega)) | (refine renV_two ?_ ?_; (focus first | (refine ren1_sl ?_; first | (rw [rhoF_new0]; rfl) | (rw [rhoF_new]; rfl) | (rw [rhoF_old]; first | assumption | omega)) | rfl); (focus rfl)) | rfl | (refine (renV_plain ?_).symm; first | rfl | (refine plain_agg ?_; simp only [go_sem, ALS]; done))); (focus first | (simp only [wfV, wf1, wfC, LAC]; omega) | (refine wfV_two ?_ ?_; (focus simp only [wf1, wfC, LAC]; omega); (focus trivial)) | (refine plainV_wf ?_; (focus first | rfl | (refine plain_agg ?_; simp only [go_sem, ALS]; done)); done)))

end Go.Proofs.YtenkjbkcdcionaaGreat
/- Counts of steps. -/
namespace Go.Proofs.YtenkjbkcdcionaaGreat
set_option linter.unusedSimpArgs false
set_option linter.unusedVariables false
set_option maxRecDepth 20000
set_option maxHeartbeats 1000000
open Go.Abs

def allB (p : Nat → Bool) (n : Nat) : Bool := (List.range n).all p
theorem allB_at {p : Nat → Bool} {n i : Nat} (h : allB p n = true) (hi : i < n) : p i = true := List.all_eq_true.1 h i (List.mem_range.2 hi)
theorem allB_bad {p : Nat → Bool} : ∀ n, allB p n = false → ∃ q, q < n ∧ (∀ i, i < q → p i = true) ∧ p q = false
  | 0, h => by simp [allB] at h
  | n + 1, h => by
    unfold allB at h
    rw [List.range_succ, List.all_append] at h
    cases hn : allB p n
    · obtain ⟨q, h1, h2, h3⟩ := allB_bad n hn
      exact ⟨q, by omega, h2, h3⟩
    · have hn' : (List.range n).all p = true := hn
      rw [hn'] at h
      exact ⟨n, by omega, fun i hi => allB_at hn hi, by simpa using h⟩
def stF (bx d x : Nat → UInt8) : Nat → Int := fun i => difI bx (d i) 256 (x i).toNat
def stB (bx d x : Nat → UInt8) : Nat → Bool := fun i => !(stF bx d x i == 0)
theorem stF_snoc (bx d x : Nat → UInt8) (j : Nat) : Is j (stF bx d x) ++ [.int .i64 (stF bx d x j)] = Is (j + 1) (stF bx d x) := Is_snoc _

theorem countsS_bad {m : Nat} (h0 : 256 ≤ m) (h1 : m < 512) (r : Int) (bx mx : Nat → UInt8) {pl : Nat → UInt8} (hp : plOk pl = true) (d e : Nat → UInt8) (last : Bool) (hb : allB (stB bx d (befF m mx pl e last)) 16 = false) (h : List Blk) :
    AC Tryz.prog 34 [.agg (Ci m bx mx pl r).toArray, .agg (Bs 16 d).toArray, .agg (Bs 16 e).toArray, .bool last] h (.tuple #[.slice none 0 0, .bool false]) h := by
  obtain ⟨q, hq, hok, hz⟩ := allB_bad 16 hb
  (refine AC_begin (fun _ _ => Tryz.call34 _ _) Tryz.func34 rfl Tryz.ntmps34 Tryz.results34 (fun hwf => ?_); simp only [LCN, Nat.reduceAdd, Nat.reduceSub, List.replicate])
  (refine sW0 (befS_ac h0 h1 _ _ _ hp) ?_)
  clear hb
  generalize befF m mx pl e last = x at *
  have hx : ∀ i, (x i).toNat < 256 := fun i => u8_lt (x i)
  refine WA_forP (fun k => [(8, J), (9, J), (11, sl (h.length + 3) 0 k 1), (12, .int .i64 k), (13, J), (18, J), (19, J), (20, J), (21, J), (22, J), (23, J), (24, J), (25, J), (26, J), (27, J), (28, J), (29, J), (30, J), (31, J), (32, J), (33, J), (34, J), (35, J), (36, J), (37, J), (38, J), (39, J)]) (fun k => [(3, ⟨Is k (stF bx d x), true⟩)]) (q) ?_ ?_ ?_ <;> (try simp only [PTS])
  · (exact sS0)
  · intro j hj
    have hxj := hx j
    have hnz : (stF bx d x j == 0) = false := by simpa [stB] using hok j hj
    (repeat (first | ((first | (refine And.intro ?_ ?_; focus exact PLA) | ((first | with_reducible apply callB_i | with_reducible apply callK_intro | with_reducible apply callQ_i); (focus (first | assumption | (with_reducible apply difS_ac <;> (first | assumption | rfl | (simp (disch := omega) only [go_sem]; first | done | rfl) | omega | decide | (simp; done))))); (try exact WP_au)) | refine WA_seq (WA_region ?_) | refine WA_region ?_ | refine WA_exit ?_); try simp (maxSteps := 1000000) (disch := first | omega | rfl | decide | (simp only [LX] <;> omega)) only [go_sem, Nat.reduceAdd, Int.reduceAdd, Int.reduceSub, Int.reduceMul, BNS, lit1I, decide_true, show difI bx (d j) 256 (x j).toNat = stF bx d x j from rfl, hnz]) | (refine (WA_rb (id := 5) [10] (SubM.refl _) mixedOk ?_); simp only [LSZ]; (repeat (first | ((first | (refine And.intro ?_ ?_; focus exact PLA) | ((first | with_reducible apply callB_i | with_reducible apply callK_intro | with_reducible apply callQ_i | with_reducible apply callC_i); (focus (first | assumption | (with_reducible apply difS_ac <;> (first | assumption | rfl | (simp (disch := omega) only [go_sem]; first | done | rfl) | omega | decide | (simp; done))))); (try (focus (exact NL.mk rfl))); (try exact WP_au)) | refine RTk false [0, 2, 3, 6, 7] 7 ?_ | refine RTk true [1, 4, 8] 4 ?_ | refine RB_keepC 5 _ (by rfl) (by decide +kernel) ?_ | refine RTk false [9] 2 ?_ | refine REx 10 ?_ | refine RTk false [11] 0 ?_ | refine RB_done (by decide +kernel) ?_); try simp (maxSteps := 1000000) (disch := first | omega | rfl | decide | (simp only [LX] <;> omega)) only [go_sem, Nat.reduceAdd, Int.reduceAdd, Int.reduceSub, Int.reduceMul, BNS, lit1I, decide_true, show difI bx (d j) 256 (x j).toNat = stF bx d x j from rfl, hnz])))) | refine WA_seq ?_ | refine WA_block ?_ | (refine WA_skip ?_; try simp only [go_sem]) | (refine WA_ret ?_; try simp only [go_sem]) | refine WA_ct rfl ?_ | refine WA_cf rfl ?_))
    (exact gCE (And.intro @stF_snoc @sub1) [0, 1, 2, 7, 4])
  · have hxj := hx q
    have hnz : (stF bx d x q == 0) = true := by simpa [stB] using hz
    (repeat (first | ((first | (refine And.intro ?_ ?_; focus exact PLA) | ((first | with_reducible apply callB_i | with_reducible apply callK_intro | with_reducible apply callQ_i); (focus (first | assumption | (with_reducible apply difS_ac <;> (first | assumption | rfl | (simp (disch := omega) only [go_sem]; first | done | rfl) | omega | decide | (simp; done))))); (try exact WP_au)) | refine WA_seq (WA_region ?_) | refine WA_region ?_ | refine WA_exit ?_); try simp (maxSteps := 1000000) (disch := first | omega | rfl | decide | (simp only [LX] <;> omega)) only [go_sem, Nat.reduceAdd, Int.reduceAdd, Int.reduceSub, Int.reduceMul, BNS, decide_true, show difI bx (d q) 256 (x q).toNat = stF bx d x q from rfl, hnz]) | (refine (WA_rb (id := 5) [10] (SubM.refl _) mixedOk ?_); simp only [LSZ]; (repeat (first | ((first | (refine And.intro ?_ ?_; focus exact PLA) | ((first | with_reducible apply callB_i | with_reducible apply callK_intro | with_reducible apply callQ_i | with_reducible apply callC_i); (focus (first | assumption | (with_reducible apply difS_ac <;> (first | assumption | rfl | (simp (disch := omega) only [go_sem]; first | done | rfl) | omega | decide | (simp; done))))); (try (focus (exact NL.mk rfl))); (try exact WP_au)) | refine RTk false [0, 2, 3, 6, 7] 7 ?_ | refine RTk true [1, 4, 8] 4 ?_ | refine RB_keepC 5 _ (by rfl) (by decide +kernel) ?_ | refine RTk false [9] 2 ?_ | refine REx 10 ?_ | refine RTk false [11] 0 ?_ | refine RB_done (by decide +kernel) ?_); try simp (maxSteps := 1000000) (disch := first | omega | rfl | decide | (simp only [LX] <;> omega)) only [go_sem, Nat.reduceAdd, Int.reduceAdd, Int.reduceSub, Int.reduceMul, BNS, decide_true, show difI bx (d q) 256 (x q).toNat = stF bx d x q from rfl, hnz])))) | refine WA_seq ?_ | refine WA_block ?_ | (refine WA_skip ?_; try simp only [go_sem]) | (refine WA_ret ?_; try simp only [go_sem]) | refine WA_ct rfl ?_ | refine WA_cf rfl ?_))
    (exact sR0)
theorem countsS0_ok {m : Nat} (h0 : 256 ≤ m) (h1 : m < 512) (r : Int) (bx mx : Nat → UInt8) {pl : Nat → UInt8} (hp : plOk pl = true) (d e : Nat → UInt8) (last : Bool) (hb : allB (stB bx d (befF m mx pl e last)) 16 = true) (h : List Blk) :
    AC Tryz.prog 34 [.agg (Ci m bx mx pl r).toArray, .agg (Bs 16 d).toArray, .agg (Bs 16 e).toArray, .bool last] h (.tuple #[sl (h.length + 3) 0 16 1, .bool true])
      (h ++ [⟨Ci m bx mx pl r, true⟩, ⟨Bs 16 d, true⟩, ⟨Bs 16 e, true⟩, ⟨Is 16 (stF bx d (befF m mx pl e last)), true⟩, ⟨Bs 16 (befF m mx pl e last), true⟩]) := by
  (refine AC_begin (fun _ _ => Tryz.call34 _ _) Tryz.func34 rfl Tryz.ntmps34 Tryz.results34 (fun hwf => ?_); simp only [LCN, Nat.reduceAdd, Nat.reduceSub, List.replicate])
  (refine sW0 (befS_ac h0 h1 _ _ _ hp) ?_)
  generalize befF m mx pl e last = x at *
  have hx : ∀ i, (x i).toNat < 256 := fun i => u8_lt (x i)
  refine WA_forP (fun k => [(8, J), (9, J), (11, sl (h.length + 3) 0 k 1), (12, .int .i64 k), (13, J), (18, J), (19, J), (20, J), (21, J), (22, J), (23, J), (24, J), (25, J), (26, J), (27, J), (28, J), (29, J), (30, J), (31, J), (32, J), (33, J), (34, J), (35, J), (36, J), (37, J), (38, J), (39, J)]) (fun k => [(3, ⟨Is k (stF bx d x), true⟩)]) (16) ?_ ?_ ?_ <;> (try simp only [PTS])
  · (exact sS0)
  · intro j hj
    have hxj := hx j
    have hnz : (stF bx d x j == 0) = false := by simpa [stB] using allB_at hb hj
    (repeat (first | ((first | (refine And.intro ?_ ?_; focus exact PLA) | ((first | with_reducible apply callB_i | with_reducible apply callK_intro | with_reducible apply callQ_i); (focus (first | assumption | (with_reducible apply difS_ac <;> (first | assumption | rfl | (simp (disch := omega) only [go_sem]; first | done | rfl) | omega | decide | (simp; done))))); (try exact WP_au)) | refine WA_seq (WA_region ?_) | refine WA_region ?_ | refine WA_exit ?_); try simp (maxSteps := 1000000) (disch := first | omega | rfl | decide | (simp only [LX] <;> omega)) only [go_sem, Nat.reduceAdd, Int.reduceAdd, Int.reduceSub, Int.reduceMul, BNS, lit1I, decide_true, show difI bx (d j) 256 (x j).toNat = stF bx d x j from rfl, hnz]) | (refine (WA_rb (id := 5) [10] (SubM.refl _) mixedOk ?_); simp only [LSZ]; (repeat (first | ((first | (refine And.intro ?_ ?_; focus exact PLA) | ((first | with_reducible apply callB_i | with_reducible apply callK_intro | with_reducible apply callQ_i | with_reducible apply callC_i); (focus (first | assumption | (with_reducible apply difS_ac <;> (first | assumption | rfl | (simp (disch := omega) only [go_sem]; first | done | rfl) | omega | decide | (simp; done))))); (try (focus (exact NL.mk rfl))); (try exact WP_au)) | refine RTk false [0, 2, 3, 6, 7] 7 ?_ | refine RTk true [1, 4, 8] 4 ?_ | refine RB_keepC 5 _ (by rfl) (by decide +kernel) ?_ | refine RTk false [9] 2 ?_ | refine REx 10 ?_ | refine RTk false [11] 0 ?_ | refine RB_done (by decide +kernel) ?_); try simp (maxSteps := 1000000) (disch := first | omega | rfl | decide | (simp only [LX] <;> omega)) only [go_sem, Nat.reduceAdd, Int.reduceAdd, Int.reduceSub, Int.reduceMul, BNS, lit1I, decide_true, show difI bx (d j) 256 (x j).toNat = stF bx d x j from rfl, hnz])))) | refine WA_seq ?_ | refine WA_block ?_ | (refine WA_skip ?_; try simp only [go_sem]) | (refine WA_ret ?_; try simp only [go_sem]) | refine WA_ct rfl ?_ | refine WA_cf rfl ?_))
    (exact gCE (And.intro @stF_snoc @sub1) [0, 1, 2, 7, 4])
  · (refine sN0 ?_)
    (exact sR0)
theorem countsS_ok {m : Nat} (h0 : 256 ≤ m) (h1 : m < 512) (r : Int) (bx mx : Nat → UInt8) {pl : Nat → UInt8} (hp : plOk pl = true) (d e : Nat → UInt8) (last : Bool) (hb : allB (stB bx d (befF m mx pl e last)) 16 = true) (h : List Blk) :
    AC Tryz.prog 34 [.agg (Ci m bx mx pl r).toArray, .agg (Bs 16 d).toArray, .agg (Bs 16 e).toArray, .bool last] h (.tuple #[sl h.length 0 16 1, .bool true])
      (h ++ [⟨Is 16 (stF bx d (befF m mx pl e last)), true⟩]) := by
  (refine AC_gc [3] (countsS0_ok h0 h1 r bx mx hp d e last hb h) (by decide) ?_ ?_ ?_; (focus (repeat (first | exact trivial | (refine And.intro ⟨_, rfl, ?_⟩ ?_; (focus first | (refine Fit_plain ?_; simp only [go_sem, ALS]; done) | exact Fit_nil rfl | exact Fit_dead | (refine Fit_eq ?_ ?_; (focus simp only [go_sem, ALS]); (focus (first | rfl | (simp only [ICS]; done) | (simp only [ICS]; rfl))))))))); (focus first | (refine renV_sl ?_; first | (rw [rhoF_new0]; rfl) | (rw [rhoF_new]; rfl) | (rw [rhoF_old]; first | assumption | omega)) | (refine renV_pt ?_; first | (rw [rhoF_new0]; rfl) | (rw [rhoF_new]; rfl) | (rw [rhoF_old]; first | assumption | omega)) | (refine renV_two ?_ ?_; (focus first | (refine ren1_sl ?_; first | (rw [rhoF_new0]; rfl) | (rw [rhoF_new]; rfl) | (rw [rhoF_old]; first | assumption | omega)) | rfl); (focus rfl)) | rfl | (refine (renV_plain ?_).symm; first | rfl | (refine plain_agg ?_; simp only [go_sem, ALS]; done))); (focus first | (simp only [wfV, wf1, wfC, LAC]; omega) | (refine wfV_two ?_ ?_; (focus simp only [wf1, wfC, LAC]; omega); (focus trivial)) | (refine plainV_wf ?_; (focus first | rfl | (refine plain_agg ?_; simp only [go_sem, ALS]; done)); done)))

theorem countsI_bad {m : Nat} {h : List Blk} {be bt : Nat} {bx ib pl mx : Nat → UInt8} {v4 : Value} {r : Int} {re rt : Bool} (he : h[be]? = some ⟨En bx ib pl (invP pl 16) v4 (pt bt 0) r, re⟩) (ht : h[bt]? = some ⟨Bs 4096 (mixT m (backF m mx)), rt⟩)
    (d e : Nat → UInt8) (last : Bool) (hb : allB (stB bx d (befF m mx pl e last)) 16 = false) :
    AC Tryz.prog 33 [pt be 0, .agg (Bs 16 d).toArray, .agg (Bs 16 e).toArray, .bool last] h (.slice none 0 0) h := by
  have hbe := blt he
  have hbt := blt ht
  have hp : ∀ i, i < 16 → (invP pl 16 i).toNat < 16 := fun i _ => invP_lt pl 16 (by omega) i
  obtain ⟨q, hq, hok, hz⟩ := allB_bad 16 hb
  have hbef : movF (invP pl 16) (cond last e (mixF m (backF m mx) e)) = befF m mx pl e last := rfl
  (refine AC_begin (fun _ _ => Tryz.call33 _ _) Tryz.func33 rfl Tryz.ntmps33 Tryz.results33 (fun hwf => ?_); simp only [LCN, Nat.reduceAdd, Nat.reduceSub, List.replicate])
  (refine sY @hbef @befI_ac ?_)
  clear hb hbef
  generalize befF m mx pl e last = x at *
  have hx : ∀ i, (x i).toNat < 256 := fun i => u8_lt (x i)
  refine WA_forP (fun k => [(8, J), (9, sl (h.length + 2) 0 k 1), (10, J), (11, J), (12, J), (13, J), (18, .int .i64 k), (19, J), (20, J), (21, J), (22, J), (23, J), (24, J), (25, J), (26, J), (27, J), (28, J), (29, J), (30, J), (31, J), (32, J), (33, J), (34, J), (35, J), (36, J), (37, J), (38, J), (39, J)]) (fun k => [(2, ⟨Is k (stF bx d x), true⟩)]) (q) ?_ ?_ ?_ <;> (try simp only [PTS])
  · (exact sS0)
  · intro j hj
    have hxj := hx j
    have hnz : (stF bx d x j == 0) = false := by simpa [stB] using hok j hj
    (repeat (first | ((first | (refine And.intro ?_ ?_; focus exact PLA) | ((first | with_reducible apply callB_i | with_reducible apply callK_intro | with_reducible apply callQ_i); (focus (first | assumption | (with_reducible apply difJ_ac <;> (first | assumption | rfl | (simp (disch := omega) only [go_sem]; first | done | rfl) | omega | decide | (simp; done))))); (try exact WP_au)) | refine WA_seq (WA_region ?_) | refine WA_region ?_ | refine WA_exit ?_); try simp (maxSteps := 1000000) (disch := first | omega | rfl | decide | (simp only [LX] <;> omega)) only [go_sem, Nat.reduceAdd, Int.reduceAdd, Int.reduceSub, Int.reduceMul, BNS, look_old he, lit1I, decide_true, show difI bx (d j) 256 (x j).toNat = stF bx d x j from rfl, hnz]) | (refine (WA_rb (id := 5) [7, 10] (SubM.refl _) mixedOk ?_); simp only [LSZ]; (repeat (first | ((first | (refine And.intro ?_ ?_; focus exact PLA) | ((first | with_reducible apply callB_i | with_reducible apply callK_intro | with_reducible apply callQ_i); (focus (first | assumption | (with_reducible apply difJ_ac <;> (first | assumption | rfl | (simp (disch := omega) only [go_sem]; first | done | rfl) | omega | decide | (simp; done))))); (try exact WP_au)) | refine RTk false [0, 1, 2, 4, 5, 8] 6 ?_ | refine RTk true [3, 6] 4 ?_ | refine REx 7 ?_ | refine RTk false [9] 2 ?_ | refine REx 10 ?_ | refine RTk false [11] 0 ?_ | refine RB_done (by decide +kernel) ?_); try simp (maxSteps := 1000000) (disch := first | omega | rfl | decide | (simp only [LX] <;> omega)) only [go_sem, Nat.reduceAdd, Int.reduceAdd, Int.reduceSub, Int.reduceMul, BNS, look_old he, lit1I, decide_true, show difI bx (d j) 256 (x j).toNat = stF bx d x j from rfl, hnz])))) | refine WA_seq ?_ | refine WA_block ?_ | (refine WA_skip ?_; try simp only [go_sem]) | (refine WA_ret ?_; try simp only [go_sem]) | refine WA_ct rfl ?_ | refine WA_cf rfl ?_))
    (exact gCE (And.intro @stF_snoc @sub1) [0, 1, 5])
  · have hxj := hx q
    have hnz : (stF bx d x q == 0) = true := by simpa [stB] using hz
    (repeat (first | ((first | (refine And.intro ?_ ?_; focus exact PLA) | ((first | with_reducible apply callB_i | with_reducible apply callK_intro | with_reducible apply callQ_i); (focus (first | assumption | (with_reducible apply difJ_ac <;> (first | assumption | rfl | (simp (disch := omega) only [go_sem]; first | done | rfl) | omega | decide | (simp; done))))); (try exact WP_au)) | refine WA_seq (WA_region ?_) | refine WA_region ?_ | refine WA_exit ?_); try simp (maxSteps := 1000000) (disch := first | omega | rfl | decide | (simp only [LX] <;> omega)) only [go_sem, Nat.reduceAdd, Int.reduceAdd, Int.reduceSub, Int.reduceMul, BNS, look_old he, decide_true, show difI bx (d q) 256 (x q).toNat = stF bx d x q from rfl, hnz]) | (refine (WA_rb (id := 5) [7, 10] (SubM.refl _) mixedOk ?_); simp only [LSZ]; (repeat (first | ((first | (refine And.intro ?_ ?_; focus exact PLA) | ((first | with_reducible apply callB_i | with_reducible apply callK_intro | with_reducible apply callQ_i); (focus (first | assumption | (with_reducible apply difJ_ac <;> (first | assumption | rfl | (simp (disch := omega) only [go_sem]; first | done | rfl) | omega | decide | (simp; done))))); (try exact WP_au)) | refine RTk false [0, 1, 2, 4, 5, 8] 6 ?_ | refine RTk true [3, 6] 4 ?_ | refine REx 7 ?_ | refine RTk false [9] 2 ?_ | refine REx 10 ?_ | refine RTk false [11] 0 ?_ | refine RB_done (by decide +kernel) ?_); try simp (maxSteps := 1000000) (disch := first | omega | rfl | decide | (simp only [LX] <;> omega)) only [go_sem, Nat.reduceAdd, Int.reduceAdd, Int.reduceSub, Int.reduceMul, BNS, look_old he, decide_true, show difI bx (d q) 256 (x q).toNat = stF bx d x q from rfl, hnz])))) | refine WA_seq ?_ | refine WA_block ?_ | (refine WA_skip ?_; try simp only [go_sem]) | (refine WA_ret ?_; try simp only [go_sem]) | refine WA_ct rfl ?_ | refine WA_cf rfl ?_))
    (exact sR0)
theorem countsI0_ok {m : Nat} {h : List Blk} {be bt : Nat} {bx ib pl mx : Nat → UInt8} {v4 : Value} {r : Int} {re rt : Bool} (he : h[be]? = some ⟨En bx ib pl (invP pl 16) v4 (pt bt 0) r, re⟩) (ht : h[bt]? = some ⟨Bs 4096 (mixT m (backF m mx)), rt⟩)
    (d e : Nat → UInt8) (last : Bool) (hb : allB (stB bx d (befF m mx pl e last)) 16 = true) :
    AC Tryz.prog 33 [pt be 0, .agg (Bs 16 d).toArray, .agg (Bs 16 e).toArray, .bool last] h (sl (h.length + 2) 0 16 1) (h ++ [⟨Bs 16 d, true⟩, ⟨Bs 16 e, true⟩, ⟨Is 16 (stF bx d (befF m mx pl e last)), true⟩]) := by
  have hbe := blt he
  have hbt := blt ht
  have hp : ∀ i, i < 16 → (invP pl 16 i).toNat < 16 := fun i _ => invP_lt pl 16 (by omega) i
  have hbef : movF (invP pl 16) (cond last e (mixF m (backF m mx) e)) = befF m mx pl e last := rfl
  (refine AC_begin (fun _ _ => Tryz.call33 _ _) Tryz.func33 rfl Tryz.ntmps33 Tryz.results33 (fun hwf => ?_); simp only [LCN, Nat.reduceAdd, Nat.reduceSub, List.replicate])
  (refine sY @hbef @befI_ac ?_)
  clear hbef
  generalize befF m mx pl e last = x at *
  have hx : ∀ i, (x i).toNat < 256 := fun i => u8_lt (x i)
  refine WA_forP (fun k => [(8, J), (9, sl (h.length + 2) 0 k 1), (10, J), (11, J), (12, J), (13, J), (18, .int .i64 k), (19, J), (20, J), (21, J), (22, J), (23, J), (24, J), (25, J), (26, J), (27, J), (28, J), (29, J), (30, J), (31, J), (32, J), (33, J), (34, J), (35, J), (36, J), (37, J), (38, J), (39, J)]) (fun k => [(2, ⟨Is k (stF bx d x), true⟩)]) (16) ?_ ?_ ?_ <;> (try simp only [PTS])
  · (exact sS0)
  · intro j hj
    have hxj := hx j
    have hnz : (stF bx d x j == 0) = false := by simpa [stB] using allB_at hb hj
    (repeat (first | ((first | (refine And.intro ?_ ?_; focus exact PLA) | ((first | with_reducible apply callB_i | with_reducible apply callK_intro | with_reducible apply callQ_i); (focus (first | assumption | (with_reducible apply difJ_ac <;> (first | assumption | rfl | (simp (disch := omega) only [go_sem]; first | done | rfl) | omega | decide | (simp; done))))); (try exact WP_au)) | refine WA_seq (WA_region ?_) | refine WA_region ?_ | refine WA_exit ?_); try simp (maxSteps := 1000000) (disch := first | omega | rfl | decide | (simp only [LX] <;> omega)) only [go_sem, Nat.reduceAdd, Int.reduceAdd, Int.reduceSub, Int.reduceMul, BNS, look_old he, lit1I, decide_true, show difI bx (d j) 256 (x j).toNat = stF bx d x j from rfl, hnz]) | (refine (WA_rb (id := 5) [7, 10] (SubM.refl _) mixedOk ?_); simp only [LSZ]; (repeat (first | ((first | (refine And.intro ?_ ?_; focus exact PLA) | ((first | with_reducible apply callB_i | with_reducible apply callK_intro | with_reducible apply callQ_i); (focus (first | assumption | (with_reducible apply difJ_ac <;> (first | assumption | rfl | (simp (disch := omega) only [go_sem]; first | done | rfl) | omega | decide | (simp; done))))); (try exact WP_au)) | refine RTk false [0, 1, 2, 4, 5, 8] 6 ?_ | refine RTk true [3, 6] 4 ?_ | refine REx 7 ?_ | refine RTk false [9] 2 ?_ | refine REx 10 ?_ | refine RTk false [11] 0 ?_ | refine RB_done (by decide +kernel) ?_); try simp (maxSteps := 1000000) (disch := first | omega | rfl | decide | (simp only [LX] <;> omega)) only [go_sem, Nat.reduceAdd, Int.reduceAdd, Int.reduceSub, Int.reduceMul, BNS, look_old he, lit1I, decide_true, show difI bx (d j) 256 (x j).toNat = stF bx d x j from rfl, hnz])))) | refine WA_seq ?_ | refine WA_block ?_ | (refine WA_skip ?_; try simp only [go_sem]) | (refine WA_ret ?_; try simp only [go_sem]) | refine WA_ct rfl ?_ | refine WA_cf rfl ?_))
    (exact gCE (And.intro @stF_snoc @sub1) [0, 1, 5])
  · (refine sN0 ?_)
    (exact sR0)
theorem countsI_ok {m : Nat} {h : List Blk} {be bt : Nat} {bx ib pl mx : Nat → UInt8} {v4 : Value} {r : Int} {re rt : Bool} (he : h[be]? = some ⟨En bx ib pl (invP pl 16) v4 (pt bt 0) r, re⟩) (ht : h[bt]? = some ⟨Bs 4096 (mixT m (backF m mx)), rt⟩)
    (d e : Nat → UInt8) (last : Bool) (hb : allB (stB bx d (befF m mx pl e last)) 16 = true) :
    AC Tryz.prog 33 [pt be 0, .agg (Bs 16 d).toArray, .agg (Bs 16 e).toArray, .bool last] h (sl h.length 0 16 1) (h ++ [⟨Is 16 (stF bx d (befF m mx pl e last)), true⟩]) := by
  (refine AC_gc [2] (countsI0_ok he ht d e last hb) (by decide) ?_ ?_ ?_; (focus (repeat (first | exact trivial | (refine And.intro ⟨_, rfl, ?_⟩ ?_; (focus first | (refine Fit_plain ?_; simp only [go_sem, ALS]; done) | exact Fit_nil rfl | exact Fit_dead | (refine Fit_eq ?_ ?_; (focus simp only [go_sem, ALS]); (focus (first | rfl | (simp only [ICS]; done) | (simp only [ICS]; rfl))))))))); (focus first | (refine renV_sl ?_; first | (rw [rhoF_new0]; rfl) | (rw [rhoF_new]; rfl) | (rw [rhoF_old]; first | assumption | omega)) | (refine renV_pt ?_; first | (rw [rhoF_new0]; rfl) | (rw [rhoF_new]; rfl) | (rw [rhoF_old]; first | assumption | omega)) | (refine renV_two ?_ ?_; (focus first | (refine ren1_sl ?_; first | (rw [rhoF_new0]; rfl) | (rw [rhoF_new]; rfl) | (rw [rhoF_old]; first | assumption | omega)) | rfl); (focus rfl)) | rfl | (refine (renV_plain ?_).symm; first | rfl | (refine plain_agg ?_; simp only [go_sem, ALS]; done))); (focus first | (simp only [wfV, wf1, wfC, LAC]; omega) | (refine wfV_two ?_ ?_; (focus simp only [wf1, wfC, LAC]; omega); (focus trivial)) | (refine plainV_wf ?_; (focus first | rfl | (refine plain_agg ?_; simp only [go_sem, ALS]; done)); done)))

end Go.Proofs.YtenkjbkcdcionaaGreat
/- Ranks by elimination, rows and columns chosen by masks. Plain. -/
namespace Go.Proofs.YtenkjbkcdcionaaGreat
set_option linter.unusedSimpArgs false
set_option linter.unusedVariables false
set_option maxRecDepth 20000
set_option maxHeartbeats 1000000
open Go.Abs

def cn (C : Nat) : Nat → Nat
  | 0 => 0
  | k + 1 => cn C k + (if C.testBit k then 1 else 0)
def kp (C q : Nat) : Nat := ((List.range 4).filter C.testBit).getD q 0
theorem kp_cn : ∀ C, C < 16 → ∀ j, j < 4 → C.testBit j = true → kp C (cn C j) = j := by decide +kernel
theorem kp_lt : ∀ C, C < 16 → ∀ q, q < 4 → q < cn C 4 → kp C q < 4 ∧ C.testBit (kp C q) = true ∧ cn C (kp C q) = q := by decide +kernel
theorem cn_le (C : Nat) : ∀ k, cn C k ≤ k
  | 0 => Nat.le_refl 0
  | k + 1 => by have := cn_le C k; unfold cn; split <;> omega
theorem cn_t {C k : Nat} (h : C.testBit k = true) : cn C (k + 1) = cn C k + 1 := by rw [cn, if_pos h]
theorem cn_f {C k : Nat} (h : C.testBit k = false) : cn C (k + 1) = cn C k := by rw [cn, h]; rfl
theorem cn_mono (C : Nat) {j : Nat} : ∀ k, j ≤ k → cn C j ≤ cn C k
  | 0, h => by rw [show j = 0 by omega]; exact Nat.le_refl _
  | k + 1, h => by
    rcases Nat.lt_or_ge j (k + 1) with h1 | h1
    · exact Nat.le_trans (cn_mono C k (show j ≤ k by omega)) (Nat.le_add_right _ _)
    · rw [show j = k + 1 by omega]; exact Nat.le_refl _

structure RkSt where
  E : Nat → Nat → UInt8
  s : Nat → Nat
  r : Nat
def gpC (L : Nat) (E : Nat → Nat → UInt8) (s : Nat → Nat) (r j : Nat) : Nat := skip (fun p => decide (p < L) && E (s p) j == 0) 8 r
theorem gp_go {L : Nat} {E : Nat → Nat → UInt8} {s : Nat → Nat} {r j i : Nat} (h : i < gpC L E s r j) : r + i < L ∧ (E (s (r + i)) j == 0) = true := by
  have := skip_go _ _ _ h
  rwa [Bool.and_eq_true, decide_eq_true_eq] at this
theorem gp_le {L : Nat} {E : Nat → Nat → UInt8} {s : Nat → Nat} {r j : Nat} (hr : r ≤ L) : r + gpC L E s r j ≤ L := by
  rcases Nat.eq_zero_or_pos (gpC L E s r j) with h | h
  · omega
  · have := (gp_go (i := gpC L E s r j - 1) (L := L) (E := E) (s := s) (r := r) (j := j) (by omega)).1
    omega
theorem gp_end {L : Nat} {E : Nat → Nat → UInt8} {s : Nat → Nat} {r j : Nat} (hr : r ≤ L) (hL : L ≤ 4) (h : r + gpC L E s r j ≠ L) : (E (s (r + gpC L E s r j)) j == 0) = false := by
  have h1 := gp_le (L := L) (E := E) (s := s) (r := r) (j := j) hr
  have hlt : gpC L E s r j < 8 := by omega
  have := skip_end (p := fun p => decide (p < L) && E (s p) j == 0) 8 r hlt
  have h2 : (decide (r + gpC L E s r j < L) && E (s (r + gpC L E s r j)) j == 0) = false := this
  rw [decide_eq_true (by omega), Bool.true_and] at h2
  exact h2
def swS (s : Nat → Nat) (i k : Nat) : Nat → Nat := upd (upd s i (s k)) k (s i)
theorem swS_at (s : Nat → Nat) (i k : Nat) : swS s i k k = s i := by unfold swS upd; rw [if_pos rfl]
def rowN (m : Nat) (f : UInt8) (x y : Nat → UInt8) : Nat → UInt8 := fun c => x c ^^^ tm m f (y c)
def elE (m : Nat) (s : Nat → Nat) (r j : Nat) (v : UInt8) (E : Nat → Nat → UInt8) : Nat → Nat → Nat → UInt8
  | 0 => E
  | t + 1 => upd (elE m s r j v E t) (s (r + 1 + t)) (rowN m (tm m (elE m s r j v E t (s (r + 1 + t)) j) v) (elE m s r j v E t (s (r + 1 + t))) (elE m s r j v E t (s r)))
def gstep (m L j : Nat) (S : RkSt) : RkSt :=
  if S.r + gpC L S.E S.s S.r j = L then S
  else ⟨elE m (swS S.s (S.r + gpC L S.E S.s S.r j) S.r) S.r j (inv m (S.E (S.s (S.r + gpC L S.E S.s S.r j)) j)) S.E (L - (S.r + 1)), swS S.s (S.r + gpC L S.E S.s S.r j) S.r, S.r + 1⟩
theorem gstep_no {m L j : Nat} {S : RkSt} (h : S.r + gpC L S.E S.s S.r j = L) : gstep m L j S = S := if_pos h
theorem gstep_yes {m L j : Nat} {S : RkSt} (h : S.r + gpC L S.E S.s S.r j ≠ L) : gstep m L j S = ⟨elE m (swS S.s (S.r + gpC L S.E S.s S.r j) S.r) S.r j (inv m (S.E (S.s (S.r + gpC L S.E S.s S.r j)) j)) S.E (L - (S.r + 1)), swS S.s (S.r + gpC L S.E S.s S.r j) S.r, S.r + 1⟩ := if_neg h
structure Pm (L : Nat) (s : Nat → Nat) : Prop where
  lt : ∀ p, p < L → s p < L
  inj : ∀ p q, p < L → q < L → s p = s q → p = q
theorem Pm_id (L : Nat) : Pm L fun p => p := ⟨fun _ h => h, fun _ _ _ _ h => h⟩
theorem swS_eq (s : Nat → Nat) (i k p : Nat) : swS s i k p = s (if p = k then i else if p = i then k else p) := by
  unfold swS upd
  by_cases h1 : p = k
  · rw [if_pos h1, if_pos h1]
  · rw [if_neg h1, if_neg h1]
    by_cases h2 : p = i
    · rw [if_pos h2, if_pos h2]
    · rw [if_neg h2, if_neg h2]
theorem Pm_sw {L : Nat} {s : Nat → Nat} (h : Pm L s) {i k : Nat} (hi : i < L) (hk : k < L) : Pm L (swS s i k) := by
  have hl : ∀ p, p < L → (if p = k then i else if p = i then k else p) < L := fun p hp => by
    split
    · exact hi
    · split
      · exact hk
      · exact hp
  refine ⟨fun p hp => by rw [swS_eq]; exact h.lt _ (hl p hp), fun p q hp hq e => ?_⟩
  rw [swS_eq, swS_eq] at e
  have := h.inj _ _ (hl p hp) (hl q hq) e
  by_cases p1 : p = k
  · by_cases q1 : q = k
    · omega
    · rw [if_pos p1, if_neg q1] at this
      by_cases q2 : q = i
      · rw [if_pos q2] at this; omega
      · rw [if_neg q2] at this; omega
  · by_cases q1 : q = k
    · rw [if_neg p1, if_pos q1] at this
      by_cases p2 : p = i
      · rw [if_pos p2] at this; omega
      · rw [if_neg p2] at this; omega
    · rw [if_neg p1, if_neg q1] at this
      by_cases p2 : p = i <;> by_cases q2 : q = i
      · omega
      · rw [if_pos p2, if_neg q2] at this; omega
      · rw [if_neg p2, if_pos q2] at this; omega
      · rw [if_neg p2, if_neg q2] at this; exact this
theorem gstep_inv {m L j : Nat} {S : RkSt} (h : Pm L S.s) (hr : S.r ≤ L) : Pm L (gstep m L j S).s ∧ (gstep m L j S).r ≤ L := by
  by_cases hp : S.r + gpC L S.E S.s S.r j = L
  · rw [gstep_no hp]; exact ⟨h, hr⟩
  · have h1 := gp_le (L := L) (E := S.E) (s := S.s) (r := S.r) (j := j) hr
    rw [gstep_yes hp]
    exact ⟨Pm_sw h (by omega) (by omega), by show S.r + 1 ≤ L; omega⟩
def rkS (m L C : Nat) (E : Nat → Nat → UInt8) : Nat → RkSt
  | 0 => ⟨E, fun p => p, 0⟩
  | j + 1 => if C.testBit j then gstep m L j (rkS m L C E j) else rkS m L C E j
theorem rkS_t {m L C j : Nat} {E : Nat → Nat → UInt8} (h : C.testBit j = true) : rkS m L C E (j + 1) = gstep m L j (rkS m L C E j) := by rw [rkS, if_pos h]
theorem rkS_f {m L C j : Nat} {E : Nat → Nat → UInt8} (h : C.testBit j = false) : rkS m L C E (j + 1) = rkS m L C E j := by rw [rkS, h]; rfl
theorem rkS_inv (m L C : Nat) (E : Nat → Nat → UInt8) : ∀ j, Pm L (rkS m L C E j).s ∧ (rkS m L C E j).r ≤ L
  | 0 => ⟨Pm_id L, Nat.zero_le _⟩
  | j + 1 => by
    have ih := rkS_inv m L C E j
    unfold rkS
    split
    · exact gstep_inv ih.1 ih.2
    · exact ih
def rkI (m L : Nat) (E : Nat → Nat → UInt8) : Nat → RkSt
  | 0 => ⟨E, fun p => p, 0⟩
  | j + 1 => gstep m L j (rkI m L E j)
theorem rkI_inv (m L : Nat) (E : Nat → Nat → UInt8) : ∀ j, Pm L (rkI m L E j).s ∧ (rkI m L E j).r ≤ L
  | 0 => ⟨Pm_id L, Nat.zero_le _⟩
  | j + 1 => gstep_inv (rkI_inv m L E j).1 (rkI_inv m L E j).2
def mapE (k : Nat → Nat) (S : RkSt) : RkSt := ⟨fun q c => S.E q (k c), S.s, S.r⟩
theorem elE_map (m : Nat) (k : Nat → Nat) (s : Nat → Nat) (r j : Nat) (v : UInt8) (E : Nat → Nat → UInt8) : ∀ t, elE m s r j v (fun q c => E q (k c)) t = fun q c => elE m s r (k j) v E t q (k c)
  | 0 => rfl
  | t + 1 => by
    rw [elE, elE_map m k s r j v E t]
    funext q c
    rw [elE]
    unfold upd
    by_cases h : q = s (r + 1 + t)
    · rw [if_pos h, if_pos h]; rfl
    · rw [if_neg h, if_neg h]
theorem gstep_map (m L : Nat) (k : Nat → Nat) (j : Nat) (S : RkSt) : gstep m L j (mapE k S) = mapE k (gstep m L (k j) S) := by
  have hc : gpC L (mapE k S).E (mapE k S).s (mapE k S).r j = gpC L S.E S.s S.r (k j) := rfl
  by_cases h : S.r + gpC L S.E S.s S.r (k j) = L
  · rw [gstep_no h, gstep_no (by rw [hc]; exact h)]
  · rw [gstep_yes h, gstep_yes (by rw [hc]; exact h), hc]
    show RkSt.mk (elE m _ _ j _ (fun q c => S.E q (k c)) _) _ _ = _
    rw [elE_map]
    rfl
theorem rk_eq {m L C : Nat} (hC : C < 16) (E : Nat → Nat → UInt8) : ∀ j, j ≤ 4 → rkI m L (fun q c => E q (kp C c)) (cn C j) = mapE (kp C) (rkS m L C E j)
  | 0, _ => rfl
  | j + 1, h => by
    have ih := rk_eq (m := m) (L := L) hC E j (by omega)
    cases hb : C.testBit j
    · rw [cn_f hb, rkS_f hb, ih]
    · rw [cn_t hb, rkS_t hb, rkI, ih, gstep_map, kp_cn C hC j (by omega) hb]
def E0 (R : Nat) (a : Nat → UInt8) : Nat → Nat → UInt8 := fun q c => a (kp R q * 4 + c)
theorem upd2_pre {E : Nat → Nat → UInt8} {q k : Nat} {g x : Nat → UInt8} : upd (upd E q (pre k g x)) q (upd (upd E q (pre k g x) q) k (g k)) = upd E q (pre (k + 1) g x) := by
  rw [upd_upd, show upd E q (pre k g x) q = pre k g x from if_pos rfl, upd_pre]
end Go.Proofs.YtenkjbkcdcionaaGreat
/- Ranks: the reference. -/
namespace Go.Proofs.YtenkjbkcdcionaaGreat
set_option linter.unusedSimpArgs false
set_option linter.unusedVariables false
set_option maxRecDepth 20000
set_option maxHeartbeats 1000000
open Go.Abs

theorem upd_id {α : Type} (f : Nat → α) (i : Nat) : upd f i (f i) = f := by
  funext j; unfold upd; split
  · rename_i h; rw [h]
  · rfl
end Go.Proofs.YtenkjbkcdcionaaGreat
