/- A part of the proof of FnTrails. -/
import Derived.Test.YtenkjbkcdcionaaGreatQTLH
import Derived.Test.YtenkjbkcdcionaaGreatQTL0
import Derived.Test.YtenkjbkcdcionaaGreatQTL2
import Derived.Test.YtenkjbkcdcionaaGreatQTL3
/- Ranks: the program. -/
namespace Go.Proofs.YtenkjbkcdcionaaGreat
set_option linter.unusedSimpArgs false
set_option linter.unusedVariables false
set_option maxRecDepth 20000
set_option maxHeartbeats 1000000
open Go.Abs

theorem rows_set {h : List Blk} {R : Nat → Blk} {k q : Nat} (hq : q < k) (x : Blk) (T : List Blk) : (rowsH h R k ++ T).set (h.length + q) x = rowsH h (upd R q x) k ++ T := by
  rw [List.set_append_left _ _ (by rw [rowsH_len]; omega)]
  congr 1
  unfold rowsH
  rw [List.set_append_right _ _ (by omega), show h.length + q - h.length = q by omega]
  congr 1
  apply List.ext_getElem?
  intro i
  rw [List.getElem?_set]
  by_cases e : q = i
  · subst e; simp [upd, hq]
  · rw [if_neg e]
    by_cases hi : i < k
    · simp [upd, hi, Ne.symm e]
    · simp [hi]
theorem look_tail1 (h : List Blk) (R : Nat → Blk) (k : Nat) (T : List Blk) : (rowsH h R k ++ T)[h.length + (k + 1)]? = T[1]? := by
  rw [List.getElem?_append_right (by rw [rowsH_len]; omega), rowsH_len]; congr 1; omega
theorem set_tail1 (h : List Blk) (R : Nat → Blk) (k : Nat) (T : List Blk) (x : Blk) : (rowsH h R k ++ T).set (h.length + (k + 1)) x = rowsH h R k ++ T.set 1 x := by
  rw [List.set_append_right _ _ (by rw [rowsH_len]; omega), rowsH_len]; congr 2; omega
def Rw (nc : Nat) (E : Nat → Nat → UInt8) : Nat → Blk := fun q => ⟨Bs nc (E q), true⟩
theorem Rw_upd (nc : Nat) (E : Nat → Nat → UInt8) (q : Nat) (g : Nat → UInt8) : upd (Rw nc E) q ⟨Bs nc g, true⟩ = Rw nc (upd E q g) := by
  funext i; unfold upd Rw; by_cases e : i = q
  · simp [e]
  · simp [e]
theorem Rw_pre (nc : Nat) (E : Nat → Nat → UInt8) (q : Nat) (g x : Nat → UInt8) : Rw nc (upd E q (pre nc g x)) = Rw nc (upd E q g) := by
  rw [← Rw_upd, ← Rw_upd, Bs_pre]
theorem Rw_plain (nc : Nat) (E : Nat → Nat → UInt8) (j : Nat) : (Rw nc E j).cells.all plainC = true := Bs_plain _ _
theorem row_look {h : List Blk} {nc k q : Nat} {E : Nat → Nat → UInt8} (hq : q < k) (T : List Blk) : (rowsH h (Rw nc E) k ++ T)[h.length + q]? = some ⟨Bs nc (E q), true⟩ := look_old (rowsH_get h _ hq) T
def spF (b nc : Nat) (s : Nat → Nat) : Nat → Value := fun p => sl (b + s p) 0 nc 1
theorem spF_at (b nc : Nat) (s : Nat → Nat) (p : Nat) : spF b nc s p = sl (b + s p) 0 nc 1 := rfl
theorem spF_sw (b nc : Nat) (s : Nat → Nat) (i k : Nat) : upd (upd (spF b nc s) i (sl (b + s k) 0 nc 1)) k (sl (b + s i) 0 nc 1) = spF b nc (swS s i k) := by
  funext p
  unfold upd spF swS upd
  by_cases h1 : p = k
  · rw [if_pos h1, if_pos h1]
  · rw [if_neg h1, if_neg h1]
    by_cases h2 : p = i
    · rw [if_pos h2, if_pos h2]
    · rw [if_neg h2, if_neg h2]
theorem Fit_spine0 {N n' k b0 z : Nat} {r : List Nat} (hN : b0 + k ≤ N) (hn : N ≤ n') : Fit N r n' ⟨Vs k (spF b0 z fun j => j), true⟩ ⟨Vs k (spF b0 z fun j => j), true⟩ := by
  refine Fit_ren ?_ (fun h => h) ?_
  · show Vs k _ = (Vs k _).map (renC N r)
    unfold Vs
    rw [List.map_map]
    refine List.map_congr_left fun j hj => ?_
    have := List.mem_range.1 hj
    show sl (b0 + j) 0 z 1 = Value.slice (some (renA N r ⟨b0 + j, 0, none⟩)) z 1
    unfold renA
    rw [rhoF_old (by show b0 + j < N; omega)]
  · intro c hc
    obtain ⟨j, hj, rfl⟩ := List.mem_map.1 (show c ∈ (List.range k).map _ from hc)
    have := List.mem_range.1 hj
    show b0 + j < n'
    omega
theorem Fit_spineS {N n' k b0 z : Nat} {r : List Nat} (hN : N = b0 + k) {q : Nat} (hq : q = N + r.getD 0 0) (hn : N < n') :
    Fit N r n' ⟨Vs k (spF b0 z fun j => j) ++ [sl q 0 z 1], true⟩ ⟨Vs (k + 1) (spF b0 z fun j => j), true⟩ := Fit_spine hN hq hn
theorem rowsH_cut (h : List Blk) (R : Nat → Blk) (k : Nat) (L : List Blk) : rowsH h R k ++ L = h ++ ((List.range k).map R ++ L) := by unfold rowsH; rw [List.append_assoc]
theorem lit1W (z v : Value) : splice (repA [z] 1) (0 * 1) [v] = [v] := by rw [repA_one]; rfl

theorem ones64_ac {x : Nat} (hx : x < 16) (h : List Blk) : AC Tryz.prog 81 [.int .u64 x] h (.int .i64 ((cn x 4 : Nat) : Int)) h := by
  (refine AC_begin (fun _ _ => Tryz.call81 _ _) Tryz.func81 rfl Tryz.ntmps81 Tryz.results81 (fun hwf => ?_); simp only [LCN, Nat.reduceAdd, Nat.reduceSub, List.replicate])
  (refine sN0 ?_)
  refine ret_none (by first | exact .inr rfl | exact .inl rfl) ?_
  simp (maxSteps := 1000000) (disch := first | omega | rfl | decide | (simp only [LX] <;> omega)) only [go_sem, Nat.reduceAdd, Int.reduceAdd, Int.reduceSub, Int.reduceMul, BNS]
  refine congrArg (fun z : Int => some (Value.int .i64 z)) ?_
  revert hx
  revert x
  decide +kernel
theorem ones_ac {x : Nat} (hx : x < 16) (h : List Blk) : AC Tryz.prog 40 [.int .u64 x] h (.int .i64 ((cn x 4 : Nat) : Int)) h := by
  (refine AC_begin (fun _ _ => Tryz.call40 _ _) Tryz.func40 rfl Tryz.ntmps40 Tryz.results40 (fun hwf => ?_); simp only [LCN, Nat.reduceAdd, Nat.reduceSub, List.replicate])
  (refine sW0 (ones64_ac hx) ?_)
  (exact sR0)

theorem rankI_ac {m : Nat} (h0 : 256 ≤ m) (h1 : m < 512) (a : Nat → UInt8) {R C : Nat} (hR : R < 16) (hC : C < 16) (h : List Blk) :
    AC Tryz.prog 79 [.int .i64 m, .agg (Bs 16 a).toArray, .int .i64 R, .int .i64 C] h (.int .i64 (((rkS m (cn R 4) C (E0 R a) 4).r : Nat) : Int)) h := by
  have hL := cn_le R 4
  have hnc := cn_le C 4
  generalize hE : (fun q c => E0 R a q (kp C c)) = E1
  have hE1 : ∀ q, E1 q = fun c => a (kp R q * 4 + kp C c) := fun q => by rw [← hE]; rfl
  (refine AC_begin (fun _ _ => Tryz.call79 _ _) Tryz.func79 rfl Tryz.ntmps79 Tryz.results79 (fun hwf => ?_); simp only [LCN, Nat.reduceAdd, Nat.reduceSub, List.replicate])
  (refine sN (@yieldA_at 4 63) ?_)
  refine WA_forH (fun k => [(5, pt (rowsH h (Rw (cn C 4) E1) (cn R k)).length 0), (9, sl ((rowsH h (Rw (cn C 4) E1) (cn R k)).length + 1) 0 (cn R k) 1), (10, J), (11, J), (12, J), (20, J), (21, .int .i64 k), (22, J), (23, J), (24, J), (25, J), (26, J), (27, J), (28, J), (29, J), (30, J), (31, J), (32, J), (33, J), (34, J), (35, J), (36, J), (37, J), (38, J), (39, J), (40, J), (41, J), (42, J), (43, J), (44, J), (45, J), (46, J), (47, J), (48, J), (49, J), (50, J), (51, J)]) (fun k => rowsH h (Rw (cn C 4) E1) (cn R k) ++ [⟨Bs 16 a, true⟩, ⟨Vs (cn R k) (spF h.length (cn C 4) fun j => j), true⟩]) (4) ?_ ?_ ?_ <;> (try simp only [PTS])
  · rw [show cn R 0 = 0 from rfl, rowsH_zero]
    (exact sS0)
  · intro i hi
    have hle := cn_le R i
    have hsR := Nat.shiftRight_le R i
    have hmo := cn_mono R (j := i) 4 (by omega)
    have hwj := rowsH_wf (k := cn R i) hwf (Rw_plain (cn C 4) E1)
    have hll := rowsH_len h (Rw (cn C 4) E1) (cn R i)
    cases hb : R.testBit i
    · (refine sN (And.intro @hb (@yieldA_at 4 63)) ?_)
      rw [cn_f hb]
      (refine Drop_slots (by first | exact Nat.le_refl _ | (rw [List.length_append, rowsH_len]; omega)) ?_; focus ((try simp only [JL_same, JL_J, JL_nil, Int.reduceAdd, Nat.sub_sub, ICS, Bool.false_eq_true, if_false, if_true]); (try exact JL_refl _)))
    · (refine sN (And.intro @hb (@yieldA_at 4 63)) ?_)
      have hrow : Rw (cn C 4) E1 (cn R i) = ⟨Bs (cn C 4) fun c => a (i * 4 + kp C c), true⟩ := by unfold Rw; rw [hE1, kp_cn R hR i hi hb]
      refine WA_forP (fun k => [(11, sl ((rowsH h (Rw (cn C 4) E1) (cn R i)).length + 2) 0 (cn C k) 1), (12, J), (29, J), (30, .int .i64 k), (31, J), (32, J), (33, J), (34, J), (35, J), (36, J), (37, J), (38, J), (39, J), (40, J), (41, J), (42, J), (43, J), (44, J), (45, J), (46, J)]) (fun k => [(2, ⟨Bs (cn C k) fun c => a (i * 4 + kp C c), true⟩)]) (4) ?_ ?_ ?_ <;> (try simp only [PTS])
      · (refine Drop_slots (by first | exact Nat.le_refl _ | (rw [List.length_append, rowsH_len]; omega)) ?_; focus ((try simp only [JL_same, JL_J, JL_nil, Int.reduceAdd, Nat.sub_sub, ICS, Bool.false_eq_true, if_false, if_true, show cn C 0 = 0 from rfl]); (try exact JL_refl _)))
      · intro j hj
        have hlc := cn_le C j
        have hsC := Nat.shiftRight_le C j
        cases hc : C.testBit j
        · (refine sN (And.intro @hc (@yieldA_at 4 63)) ?_)
          rw [cn_f hc]
          (refine Drop_slots (by first | exact Nat.le_refl _ | (rw [List.length_append, rowsH_len]; omega)) ?_; focus ((try simp only [JL_same, JL_J, JL_nil, Int.reduceAdd, Nat.sub_sub, ICS, Bool.false_eq_true, if_false, if_true]); (try exact JL_refl _)))
        · have hsn : Bs (cn C j) (fun c => a (i * 4 + kp C c)) ++ [B (a (i * 4 + j))] = Bs (cn C (j + 1)) fun c => a (i * 4 + kp C c) := by
            rw [cn_t hc]; unfold Bs; rw [List.range_succ, List.map_append]; congr 1
            show [B (a (i * 4 + j))] = [B (a (i * 4 + kp C (cn C j)))]
            rw [kp_cn C hC j hj hc]
          (refine sN (And.intro @hc (And.intro @lit1W (And.intro @sub1 (And.intro @hsn (@yieldA_at 4 63))))) ?_)
          (refine Drop_gc [0, 1, 4] (by first | omega | first | assumption | omega | (simp only [LRP]; omega)) (by assumption) (by decide) ?_ ?_; (focus (repeat (first | exact trivial | (refine And.intro ⟨_, rfl, ?_⟩ ?_; (focus first | (refine Fit_plain ?_; simp only [go_sem, ALS]; done) | exact Fit_nil rfl | exact Fit_dead | (refine Fit_eq ?_ ?_; (focus simp only [go_sem, ALS]); (focus (first | rfl | (simp only [ICS, cn_t hc]; done) | (simp only [ICS, cn_t hc]; rfl)))) | (refine Fit_spine0 ?_ ?_; (focus omega); (focus (simp only [LAC]; omega))) | (refine Fit_spineS ?_ ?_ ?_; (focus first | omega | assumption); (focus rfl); (focus (simp only [LAC]; omega)))))))); (focus (repeat (first | exact JR_nil | refine JR_J ?_ | (refine JR_plain ?_ ?_; (focus first | rfl | (refine plain_agg ?_; simp only [go_sem, ALS]; done))) | ((first | refine JR_pt ?_ ?_ ?_ | refine JR_sl ?_ ?_ ?_); (focus first | (rw [rhoF_new0]; rfl) | (rw [rhoF_new]; rfl) | (rw [rhoF_old]; first | assumption | omega)); (focus first | assumption | omega | (simp only [LRP]; omega))) | (refine JR_plain' ?_ ?_ ?_; (focus first | rfl | (refine plain_agg ?_; simp only [go_sem, ALS]; done)); (focus (first | rfl | (simp only [ICS, cn_t hc]; done) | (simp only [ICS, cn_t hc]; rfl)))) | (refine JR_sl' ?_ ?_ ?_ ?_; (focus first | (rw [rhoF_new0]; rfl) | (rw [rhoF_new]; rfl) | (rw [rhoF_old]; first | assumption | omega)); (focus first | assumption | omega | (simp only [LRP]; omega)); (focus first | rfl | omega | (first | rfl | (simp only [ICS, cn_t hc]; done) | (simp only [ICS, cn_t hc]; rfl))))))))
      · (refine sN (And.intro @lit1W (And.intro @sub1 (@yieldA_at 4 63))) ?_)
        rw [cn_t hb, rowsH_app, rowsH_lenS, hrow]
        simp only [Nat.add_assoc, Nat.reduceAdd]
        (refine Drop_gc [2, 0, 4] (by first | omega | first | assumption | omega | (simp only [LRP]; omega)) (by assumption) (by decide) ?_ ?_; (focus (repeat (first | exact trivial | (refine And.intro ⟨_, rfl, ?_⟩ ?_; (focus first | (refine Fit_plain ?_; simp only [go_sem, ALS]; done) | exact Fit_nil rfl | exact Fit_dead | (refine Fit_eq ?_ ?_; (focus simp only [go_sem, ALS]); (focus (first | rfl | (simp only [ICS]; done) | (simp only [ICS]; rfl)))) | (refine Fit_spine0 ?_ ?_; (focus omega); (focus (simp only [LAC]; omega))) | (refine Fit_spineS ?_ ?_ ?_; (focus first | omega | assumption); (focus rfl); (focus (simp only [LAC]; omega)))))))); (focus (repeat (first | exact JR_nil | refine JR_J ?_ | (refine JR_plain ?_ ?_; (focus first | rfl | (refine plain_agg ?_; simp only [go_sem, ALS]; done))) | ((first | refine JR_pt ?_ ?_ ?_ | refine JR_sl ?_ ?_ ?_); (focus first | (rw [rhoF_new0]; rfl) | (rw [rhoF_new]; rfl) | (rw [rhoF_old]; first | assumption | omega)); (focus first | assumption | omega | (simp only [LRP]; omega))) | (refine JR_plain' ?_ ?_ ?_; (focus first | rfl | (refine plain_agg ?_; simp only [go_sem, ALS]; done)); (focus (first | rfl | (simp only [ICS]; done) | (simp only [ICS]; rfl)))) | (refine JR_sl' ?_ ?_ ?_ ?_; (focus first | (rw [rhoF_new0]; rfl) | (rw [rhoF_new]; rfl) | (rw [rhoF_old]; first | assumption | omega)); (focus first | assumption | omega | (simp only [LRP]; omega)); (focus first | rfl | omega | (first | rfl | (simp only [ICS]; done) | (simp only [ICS]; rfl))))))))
  · (refine sW (@yieldA_at 4 63) (ones_ac hC) ?_)
    refine WA_forH (fun k => [(5, pt (h.length + cn R 4) 0), (9, sl (h.length + (cn R 4 + 1)) 0 (cn R 4) 1), (13, .int .i64 (((rkI m (cn R 4) E1 k).r : Nat) : Int)), (14, J), (15, J), (16, J), (17, J), (18, J), (19, J), (55, .int .i64 k), (56, J), (57, J), (58, J), (59, J), (60, J), (61, J), (62, J), (63, J), (64, J), (65, J), (66, J), (67, J), (68, J), (69, J), (70, J), (71, J), (72, J), (73, J), (74, J), (75, J), (76, J), (77, J), (78, J), (79, J), (80, J), (81, J), (82, J), (83, J), (84, J), (85, J), (86, J), (87, J), (88, J), (89, J), (90, J), (91, J), (92, J), (93, J), (94, J), (95, J), (96, J), (97, J), (98, J), (99, J), (100, J), (101, J), (102, J), (103, J), (104, J), (105, J), (106, J), (107, J), (108, J), (109, J), (110, J), (111, J), (112, J), (113, J), (114, J), (115, J), (116, J), (117, J), (118, J), (119, J), (120, J), (121, J), (122, J), (123, J), (124, J), (125, J), (126, J), (127, J), (128, J), (129, J), (130, J), (131, J), (132, J), (133, J), (134, J), (135, J), (136, J), (137, J), (138, J), (139, J), (140, J), (141, J), (142, J), (143, J), (144, J), (145, J), (146, J), (147, J), (148, J), (149, J), (150, J)]) (fun k => rowsH h (Rw (cn C 4) (rkI m (cn R 4) E1 k).E) (cn R 4) ++ [⟨Bs 16 a, true⟩, ⟨Vs (cn R 4) (spF h.length (cn C 4) (rkI m (cn R 4) E1 k).s), true⟩]) (cn C 4) ?_ ?_ ?_ <;> (try simp only [PTS])
    · rw [show rkI m (cn R 4) E1 0 = ⟨E1, fun j => j, 0⟩ from rfl]
      (refine Drop_slots (by first | exact Nat.le_refl _ | (rw [List.length_append, rowsH_len]; omega)) ?_; focus ((try simp only [JL_same, JL_J, JL_nil, Int.reduceAdd, Nat.sub_sub, ICS, Bool.false_eq_true, if_false, if_true, rowsH_len, Nat.add_assoc]); (try exact JL_refl _)))
    · intro j hj
      obtain ⟨hP, hr⟩ := rkI_inv m (cn R 4) E1 j
      have hst : rkI m (cn R 4) E1 (j + 1) = gstep m (cn R 4) j (rkI m (cn R 4) E1 j) := rfl
      rw [hst]
      clear hst
      generalize rkI m (cn R 4) E1 j = S at *
      obtain ⟨E, s, r⟩ := S
      simp only [] at hP hr ⊢
      have hgl := gp_le (E := E) (s := s) (j := j) hr
      (refine sN (@yieldA_at 4 63) ?_)
      refine WA_forP (fun k => [(15, .int .i64 ((r + k : Nat) : Int)), (59, J), (60, J), (61, J), (62, J), (63, J), (64, J), (65, J), (66, J), (67, J), (68, J), (69, J), (70, J), (71, J), (72, J), (73, J), (74, J)]) (fun k => []) (gpC (cn R 4) E s r j) ?_ ?_ ?_ <;> (try simp only [PTS])
      · (refine Drop_slots (by first | exact Nat.le_refl _ | (rw [List.length_append, rowsH_len]; omega)) ?_; focus ((try simp only [JL_same, JL_J, JL_nil, Int.reduceAdd, Nat.sub_sub, ICS, Bool.false_eq_true, if_false, if_true]); (try exact JL_refl _)))
      · intro i hi
        obtain ⟨g1, g2⟩ := gp_go hi
        have hs := hP.lt (r + i) g1
        (refine sN (And.intro (decide_eq_true g1) (And.intro @look_tail1 (And.intro @spF_at (And.intro @row_look (And.intro @g2 (@yieldA_at 4 63)))))) ?_)
        (refine Drop_slots (by first | exact Nat.le_refl _ | (rw [List.length_append, rowsH_len]; omega)) ?_; focus ((try simp only [JL_same, JL_J, JL_nil, Int.reduceAdd, Nat.sub_sub, ICS, Bool.false_eq_true, if_false, if_true, Nat.add_assoc]); (try exact JL_refl _)))
      · by_cases hpv : r + gpC (cn R 4) E s r j = cn R 4
        · have hg := gstep_no (m := m) (L := cn R 4) (j := j) (S := ⟨E, s, r⟩) hpv
          rw [hg]
          (refine sN (And.intro @hpv (And.intro (show decide (cn R 4 < cn R 4) = false from decide_eq_false (Nat.lt_irrefl _)) (@yieldA_at 4 63))) ?_)
          (refine Drop_slots (by first | exact Nat.le_refl _ | (rw [List.length_append, rowsH_len]; omega)) ?_; focus ((try simp only [JL_same, JL_J, JL_nil, Int.reduceAdd, Nat.sub_sub, ICS, Bool.false_eq_true, if_false, if_true]); (try exact JL_refl _)))
        · have hg := gstep_yes (m := m) (L := cn R 4) (j := j) (S := ⟨E, s, r⟩) hpv
          simp only [] at hg
          have hge := gp_end (E := E) (s := s) (j := j) hr hL hpv
          rw [hg]
          simp only []
          clear hg
          have hpl : r + gpC (cn R 4) E s r j < cn R 4 := by omega
          have hrp : r ≤ r + gpC (cn R 4) E s r j := Nat.le_add_right _ _
          generalize r + gpC (cn R 4) E s r j = p at *
          have hs := hP.lt p hpl
          have hr4 : r < cn R 4 := by omega
          have hsr4 := hP.lt r hr4
          have hpb : (p == cn R 4) = false := by simpa using hpv
          have hPs := Pm_sw hP hpl hr4
          (repeat (first | ((first | (refine And.intro ?_ ?_; focus exact PLA) | ((first | with_reducible apply callB_i | with_reducible apply callK_intro | with_reducible apply callQ_i); (focus (first | assumption | (with_reducible apply invI_ac h0 h1 <;> (first | assumption | rfl | (simp (disch := omega) only [go_sem]; first | done | rfl) | omega | decide | (simp; done))))); (try exact WP_au)) | refine WA_seq (WA_region ?_) | refine WA_region ?_ | refine WA_exit ?_); try simp (maxSteps := 1000000) (disch := first | omega | rfl | decide | (simp only [LX] <;> omega)) only [go_sem, Nat.reduceAdd, Int.reduceAdd, Int.reduceSub, Int.reduceMul, BNS, decide_eq_true hpl, look_tail1, set_tail1, spF_at, row_look, hge, hpb, spF_sw, swS_at, yieldA_at 4 63]) | (refine (WA_rb (id := 23) [13, 15] (SubM.refl _) mixedOk ?_); simp only [LSZ]; (repeat (first | ((first | (refine And.intro ?_ ?_; focus exact PLA) | refine RTk false [0, 1, 2, 3, 4, 5, 6, 8, 9, 10] 6 ?_ | refine RTk true [7, 11] 4 ?_ | refine RTk false [12] 3 ?_ | refine REx 13 ?_ | refine RTk false [14] 1 ?_ | refine REx 15 ?_ | refine RB_done (by decide +kernel) ?_); try simp (maxSteps := 1000000) (disch := first | omega | rfl | decide | (simp only [LX] <;> omega)) only [go_sem, Nat.reduceAdd, Int.reduceAdd, Int.reduceSub, Int.reduceMul, BNS, decide_eq_true hpl, look_tail1, set_tail1, spF_at, row_look, hge, hpb, spF_sw, swS_at, yieldA_at 4 63])))) | refine WA_seq ?_ | refine WA_block ?_ | (refine WA_skip ?_; try simp only [go_sem]) | (refine WA_ret ?_; try simp only [go_sem]) | refine WA_ct rfl ?_ | refine WA_cf rfl ?_))
          have hsr : s p = swS s p r r := (swS_at s p r).symm
          generalize inv m (E (s p) j) = v
          generalize swS s p r = q at *
          refine WA_forH (fun k => [(17, .int .i64 ((r + 1 + k : Nat) : Int)), (18, J), (19, J), (104, J), (105, J), (106, J), (107, J), (108, J), (109, J), (110, J), (111, J), (112, J), (113, J), (114, J), (115, J), (116, J), (117, J), (118, J), (119, J), (120, J), (121, J), (122, J), (123, J), (124, J), (125, J), (126, J), (127, J), (128, J), (129, J), (130, J), (131, J), (132, J), (133, J), (134, J), (135, J), (136, J), (137, J), (138, J), (139, J), (140, J), (141, J), (142, J), (143, J), (144, J), (145, J), (146, J), (147, J)]) (fun k => rowsH h (Rw (cn C 4) (elE m q r j v E k)) (cn R 4) ++ [⟨Bs 16 a, true⟩, ⟨Vs (cn R 4) (spF h.length (cn C 4) q), true⟩]) (cn R 4 - (r + 1)) ?_ ?_ ?_ <;> (try simp only [PTS])
          · (refine Drop_slots (by first | exact Nat.le_refl _ | (rw [List.length_append, rowsH_len]; omega)) ?_; focus ((try simp only [JL_same, JL_J, JL_nil, Int.reduceAdd, Nat.sub_sub, ICS, Bool.false_eq_true, if_false, if_true]); (try exact JL_refl _)))
          · intro t ht
            have hn : r + 1 + t < cn R 4 := by omega
            have hq := hPs.lt _ hn
            have hqr := hPs.lt r hr4
            have hne : q r ≠ q (r + 1 + t) := fun e => absurd (hPs.inj r _ hr4 hn e) (by omega)
            have hel : elE m q r j v E (t + 1) = upd (elE m q r j v E t) (q (r + 1 + t)) (rowN m (tm m (elE m q r j v E t (q (r + 1 + t)) j) v) (elE m q r j v E t (q (r + 1 + t))) (elE m q r j v E t (q r))) := rfl
            rw [hel]
            clear hel
            generalize elE m q r j v E t = F
            generalize hqq : q (r + 1 + t) = z at *
            (refine sW (And.intro (decide_eq_true hn) (And.intro @look_tail1 (And.intro @spF_at (And.intro @row_look (And.intro @hqq (@yieldA_at 4 63)))))) (tmI_ac h0 h1) ?_)
            generalize tm m (F z j) v = f
            refine WA_forH (fun k => [(19, J), (125, .int .i64 k), (126, J), (127, J), (128, J), (129, J), (130, J), (131, J), (132, J), (133, J), (134, J), (135, J), (136, J), (137, J), (138, J), (139, J), (140, J), (141, J), (142, J), (143, J), (144, J), (145, J), (146, J), (147, J)]) (fun k => rowsH h (Rw (cn C 4) (upd F z (pre k (rowN m f (F z) (F (q r))) (F z)))) (cn R 4) ++ [⟨Bs 16 a, true⟩, ⟨Vs (cn R 4) (spF h.length (cn C 4) q), true⟩]) (cn C 4) ?_ ?_ ?_ <;> (try simp only [PTS])
            · rw [pre_zero, upd_id]
              (refine Drop_slots (by first | exact Nat.le_refl _ | (rw [List.length_append, rowsH_len]; omega)) ?_; focus ((try simp only [JL_same, JL_J, JL_nil, Int.reduceAdd, Nat.sub_sub, ICS, Bool.false_eq_true, if_false, if_true]); (try exact JL_refl _)))
            · intro c hc
              have e1 : upd F z (pre c (rowN m f (F z) (F (q r))) (F z)) z c = F z c := by unfold upd; rw [if_pos rfl]; exact pre_self c _ _
              have e2 : upd F z (pre c (rowN m f (F z) (F (q r))) (F z)) (q r) c = F (q r) c := by unfold upd; rw [if_neg hne]
              have e3 : upd (upd F z (pre c (rowN m f (F z) (F (q r))) (F z))) z (upd (upd F z (pre c (rowN m f (F z) (F (q r))) (F z)) z) c (F z c ^^^ tm m f (F (q r) c))) = upd F z (pre (c + 1) (rowN m f (F z) (F (q r))) (F z)) := upd2_pre (E := F) (q := z) (k := c) (g := rowN m f (F z) (F (q r))) (x := F z)
              (repeat (first | ((first | (refine And.intro ?_ ?_; focus exact PLA) | ((first | with_reducible apply callB_i | with_reducible apply callK_intro | with_reducible apply callQ_i); (focus (first | assumption | (with_reducible apply tmI_ac h0 h1 <;> (first | assumption | rfl | (simp (disch := omega) only [go_sem]; first | done | rfl) | omega | decide | (simp; done))))); (try exact WP_au)) | refine WA_seq (WA_region ?_) | refine WA_region ?_ | refine WA_exit ?_); try simp (maxSteps := 1000000) (disch := first | omega | rfl | decide | (simp only [LX] <;> omega)) only [go_sem, Nat.reduceAdd, Int.reduceAdd, Int.reduceSub, Int.reduceMul, BNS, look_tail1, spF_at, row_look, rows_set, Rw_upd, hqq, e1, e2, e3, yieldA_at 4 63]) | (refine (WA_rb (id := 32) [19] (SubM.refl _) mixedOk ?_); simp only [LSZ]; (repeat (first | ((first | (refine And.intro ?_ ?_; focus exact PLA) | ((first | with_reducible apply callB_i | with_reducible apply callK_intro | with_reducible apply callQ_i); (focus (first | assumption | (with_reducible apply tmI_ac h0 h1 <;> (first | assumption | rfl | (simp (disch := omega) only [go_sem]; first | done | rfl) | omega | decide | (simp; done))))); (try exact WP_au)) | refine RTk false [0, 1, 2, 4, 7, 8, 9, 10, 11, 13] 10 ?_ | refine RTk true [3, 12] 8 ?_ | refine RTk false [5, 14] 6 ?_ | refine RTk true [6, 15, 16] 3 ?_ | refine RTk false [17, 18] 1 ?_ | refine REx 19 ?_ | refine RB_done (by decide +kernel) ?_); try simp (maxSteps := 1000000) (disch := first | omega | rfl | decide | (simp only [LX] <;> omega)) only [go_sem, Nat.reduceAdd, Int.reduceAdd, Int.reduceSub, Int.reduceMul, BNS, look_tail1, spF_at, row_look, rows_set, Rw_upd, hqq, e1, e2, e3, yieldA_at 4 63])))) | refine WA_seq ?_ | refine WA_block ?_ | (refine WA_skip ?_; try simp only [go_sem]) | (refine WA_ret ?_; try simp only [go_sem]) | refine WA_ct rfl ?_ | refine WA_cf rfl ?_))
              (refine Drop_slots (by first | exact Nat.le_refl _ | (rw [List.length_append, rowsH_len]; omega)) ?_; focus ((try simp only [JL_same, JL_J, JL_nil, Int.reduceAdd, Nat.sub_sub, ICS, Bool.false_eq_true, if_false, if_true]); (try exact JL_refl _)))
            · rw [Rw_pre]
              (refine sN (@yieldA_at 4 63) ?_)
              (refine Drop_slots (by first | exact Nat.le_refl _ | (rw [List.length_append, rowsH_len]; omega)) ?_; focus ((try simp only [JL_same, JL_J, JL_nil, Int.reduceAdd, Nat.sub_sub, ICS, Bool.false_eq_true, if_false, if_true, Nat.add_assoc]); (try exact JL_refl _)))
          · have hne : decide (r + 1 + (cn R 4 - (r + 1)) < cn R 4) = false := decide_eq_false (by omega)
            (refine sN (And.intro @hne (@yieldA_at 4 63)) ?_)
            (refine Drop_slots (by first | exact Nat.le_refl _ | (rw [List.length_append, rowsH_len]; omega)) ?_; focus ((try simp only [JL_same, JL_J, JL_nil, Int.reduceAdd, Nat.sub_sub, ICS, Bool.false_eq_true, if_false, if_true]); (try exact JL_refl _)))
    · have hfin : (rkI m (cn R 4) E1 (cn C 4)).r = (rkS m (cn R 4) C (E0 R a) 4).r := by
        rw [← hE, rk_eq hC (E0 R a) 4 (by omega)]; rfl
      (refine sN (@yieldA_at 4 63) ?_)
      rw [rowsH_cut]
      (exact sR @hfin)

end Go.Proofs.YtenkjbkcdcionaaGreat
/- Matrices: the reduction's second half undoes the first; mixing is additive. Plain. -/
namespace Go.Proofs.YtenkjbkcdcionaaGreat
set_option linter.unusedSimpArgs false
set_option linter.unusedVariables false
set_option maxRecDepth 20000
set_option maxHeartbeats 1000000
open Go.Abs

def dt (m : Nat) (r y : Nat → UInt8) : Nat → UInt8
  | 0 => 0
  | n + 1 => dt m r y n ^^^ tm m (r n) (y n)
theorem dt_cong {m : Nat} {r s y z : Nat → UInt8} : ∀ {n : Nat}, (∀ t, t < n → r t = s t) → (∀ t, t < n → y t = z t) → dt m r y n = dt m s z n
  | 0, _, _ => rfl
  | n + 1, h, h2 => by
    show dt m r y n ^^^ tm m (r n) (y n) = dt m s z n ^^^ tm m (s n) (z n)
    rw [dt_cong (fun t ht => h t (by omega)) (fun t ht => h2 t (by omega)), h n (by omega), h2 n (by omega)]
theorem xor4 (a b c d : UInt8) : (a ^^^ b) ^^^ (c ^^^ d) = (a ^^^ c) ^^^ (b ^^^ d) := by
  rw [UInt8.xor_assoc, UInt8.xor_assoc, ← UInt8.xor_assoc b c d, ← UInt8.xor_assoc c b d, UInt8.xor_comm b c]
section
variable {m : Nat} (h0 : 256 ≤ m) (h1 : m < 512)
include h0 h1
theorem dt_xor (r s y : Nat → UInt8) : ∀ n, dt m (fun t => r t ^^^ s t) y n = dt m r y n ^^^ dt m s y n
  | 0 => UInt8.xor_self.symm
  | n + 1 => by
    show dt m (fun t => r t ^^^ s t) y n ^^^ tm m (r n ^^^ s n) (y n) = (dt m r y n ^^^ tm m (r n) (y n)) ^^^ (dt m s y n ^^^ tm m (s n) (y n))
    rw [dt_xor r s y n, tm_xorL h0 h1, xor4]
theorem dt_scl (r y : Nat → UInt8) (v : UInt8) : ∀ n, dt m (fun t => tm m (r t) v) y n = tm m (dt m r y n) v
  | 0 => (tm_zero m v).symm
  | n + 1 => by
    show dt m (fun t => tm m (r t) v) y n ^^^ tm m (tm m (r n) v) (y n) = tm m (dt m r y n ^^^ tm m (r n) (y n)) v
    rw [dt_scl r y v n, tm_xorL h0 h1, tm_assoc h0 h1, tm_comm h0 h1 v, ← tm_assoc h0 h1]
theorem dt_sclL (r y : Nat → UInt8) (f : UInt8) : ∀ n, dt m (fun t => tm m f (r t)) y n = tm m f (dt m r y n)
  | 0 => (tm_zeroR m f).symm
  | n + 1 => by
    show dt m (fun t => tm m f (r t)) y n ^^^ tm m (tm m f (r n)) (y n) = tm m f (dt m r y n ^^^ tm m (r n) (y n))
    rw [dt_sclL r y f n, tm_xor, tm_assoc h0 h1]
end
def D (m : Nat) (x z : Nat → UInt8) (i : Nat) : UInt8 := dt m (fun t => x (i * 4 + t)) z 4
theorem swp_at (x : Nat → UInt8) {p k i t : Nat} (ht : t < 4) : swp x p k (i * 4 + t) = if i = k then x (p * 4 + t) else if i = p then x (k * 4 + t) else x (i * 4 + t) := by
  unfold swp
  by_cases hk : i = k
  · subst hk
    rw [if_pos rfl]
    show (if i * 4 ≤ i * 4 + t ∧ i * 4 + t < i * 4 + 4 then x (p * 4 + (i * 4 + t - i * 4)) else _) = _
    rw [if_pos (by omega)]; congr 1; omega
  · rw [over_out (by omega), if_neg hk]
    by_cases hp : i = p
    · subst hp
      rw [if_pos rfl]
      show (if i * 4 ≤ i * 4 + t ∧ i * 4 + t < i * 4 + 4 then x (k * 4 + (i * 4 + t - i * 4)) else _) = _
      rw [if_pos (by omega)]; congr 1; omega
    · rw [over_out (by omega), if_neg hp]
theorem scl_row (m : Nat) (x : Nat → UInt8) (v : UInt8) {k i t : Nat} (ht : t < 4) : scl m x k v 4 (i * 4 + t) = if i = k then tm m (x (k * 4 + t)) v else x (i * 4 + t) := by
  unfold scl
  by_cases hk : i = k
  · subst hk
    rw [if_pos rfl]
    show (if i * 4 ≤ i * 4 + t ∧ i * 4 + t < i * 4 + 4 then tm m (x (i * 4 + (i * 4 + t - i * 4))) v else _) = _
    rw [if_pos (by omega), show i * 4 + t - i * 4 = t by omega]
  · rw [over_out (by omega), if_neg hk]
theorem elm_row (m : Nat) (f : UInt8) (x : Nat → UInt8) {k r i t : Nat} (ht : t < 4) : elm m f k r x 4 (i * 4 + t) = if i = r then x (r * 4 + t) ^^^ tm m f (x (k * 4 + t)) else x (i * 4 + t) := by
  unfold elm
  by_cases hk : i = r
  · subst hk
    rw [if_pos rfl]
    show (if i * 4 ≤ i * 4 + t ∧ i * 4 + t < i * 4 + 4 then x (i * 4 + (i * 4 + t - i * 4)) ^^^ tm m f (x (k * 4 + (i * 4 + t - i * 4))) else _) = _
    rw [if_pos (by omega), show i * 4 + t - i * 4 = t by omega]
  · rw [over_out (by omega), if_neg hk]
theorem D_swp (m : Nat) (x z : Nat → UInt8) (p k i : Nat) : D m (swp x p k) z i = if i = k then D m x z p else if i = p then D m x z k else D m x z i := by
  unfold D
  by_cases hk : i = k
  · rw [if_pos hk]; exact dt_cong (fun t ht => by rw [swp_at x ht, if_pos hk]) (fun _ _ => rfl)
  · rw [if_neg hk]
    by_cases hp : i = p
    · rw [if_pos hp]; exact dt_cong (fun t ht => by rw [swp_at x ht, if_neg hk, if_pos hp]) (fun _ _ => rfl)
    · rw [if_neg hp]; exact dt_cong (fun t ht => by rw [swp_at x ht, if_neg hk, if_neg hp]) (fun _ _ => rfl)
section
variable {m : Nat} (h0 : 256 ≤ m) (h1 : m < 512)
include h0 h1
theorem D_scl (x z : Nat → UInt8) (v : UInt8) (k i : Nat) : D m (scl m x k v 4) z i = if i = k then tm m (D m x z k) v else D m x z i := by
  unfold D
  by_cases hk : i = k
  · rw [if_pos hk, ← dt_scl h0 h1]; exact dt_cong (fun t ht => by rw [scl_row m x v ht, if_pos hk]) (fun _ _ => rfl)
  · rw [if_neg hk]; exact dt_cong (fun t ht => by rw [scl_row m x v ht, if_neg hk]) (fun _ _ => rfl)
theorem D_elm (x z : Nat → UInt8) (f : UInt8) (k r i : Nat) : D m (elm m f k r x 4) z i = if i = r then D m x z r ^^^ tm m f (D m x z k) else D m x z i := by
  unfold D
  by_cases hk : i = r
  · rw [if_pos hk, ← dt_sclL h0 h1, ← dt_xor h0 h1]; exact dt_cong (fun t ht => by rw [elm_row m f x ht, if_pos hk]) (fun _ _ => rfl)
  · rw [if_neg hk]; exact dt_cong (fun t ht => by rw [elm_row m f x ht, if_neg hk]) (fun _ _ => rfl)
theorem elN_D {a b v y : Nat → UInt8} {k : Nat} (hk : k < 4) (h : ∀ i, i < 4 → D m b v i = D m a y i) : ∀ r, r ≤ 4 → ∀ i, i < 4 → D m (elN m k a b r).2 v i = D m (elN m k a b r).1 y i
  | 0, _, i, hi => h i hi
  | r + 1, hr, i, hi => by
    have ih := elN_D hk h r (by omega)
    by_cases hrk : r = k
    · subst hrk; rw [elN_same]; exact ih i hi
    · rw [elN_other hrk]
      show D m (elm m _ k r _ 4) v i = D m (elm m _ k r _ 4) y i
      rw [D_elm h0 h1, D_elm h0 h1, ih i hi, ih k hk, ih r (by omega)]
theorem stepR_D {k : Nat} {s : RS} {v y : Nat → UInt8} (hk : k < 4) (hp : piv s.a k < 4) (h : ∀ i, i < 4 → D m s.b v i = D m s.a y i) : ∀ i, i < 4 → D m (stepR m k s).b v i = D m (stepR m k s).a y i := by
  refine elN_D h0 h1 hk (fun i hi => ?_) 4 (Nat.le_refl _)
  have hs : ∀ i, i < 4 → D m (swp s.b (piv s.a k) k) v i = D m (swp s.a (piv s.a k) k) y i := fun i hi => by
    rw [D_swp, D_swp, h i hi, h _ hp, h k hk]
  rw [D_scl h0 h1, D_scl h0 h1, hs i hi, hs k hk]
omit h0 h1 in
theorem sing_piv {a : Nat → UInt8} : ∀ {n : Nat}, sing m a n = false → ∀ k, k < n → piv (rs m a k).a k ≠ 4
  | 0, _, k, hk => absurd hk (by omega)
  | n + 1, h, k, hk => by
    rw [sing, Bool.or_eq_false_iff] at h
    by_cases e : k = n
    · subst e; simpa using h.2
    · exact sing_piv h.1 k (by omega)
theorem D_unit (v : Nat → UInt8) {i : Nat} (hi : i < 4) : D m unitF v i = v i := by
  have e : ∀ t, t < 4 → unitF (i * 4 + t) = if t = i then 1 else 0 := fun t ht => by
    unfold unitF unitP
    by_cases h : t = i
    · rw [if_pos h, if_pos (by omega)]
    · rw [if_neg h, if_neg (by omega)]
  show 0 ^^^ tm m (unitF (i * 4 + 0)) (v 0) ^^^ tm m (unitF (i * 4 + 1)) (v 1) ^^^ tm m (unitF (i * 4 + 2)) (v 2) ^^^ tm m (unitF (i * 4 + 3)) (v 3) = v i
  rw [e 0 (by omega), e 1 (by omega), e 2 (by omega), e 3 (by omega)]
  have hcase : i = 0 ∨ i = 1 ∨ i = 2 ∨ i = 3 := by omega
  rcases hcase with rfl | rfl | rfl | rfl <;> simp [tm_zero, tm_one h0 h1]
theorem rs_D (a y : Nat → UInt8) : ∀ k, k ≤ 4 → sing m a k = false → ∀ i, i < 4 → D m (rs m a k).b (D m a y) i = D m (rs m a k).a y i
  | 0, _, _, i, hi => D_unit h0 h1 _ hi
  | k + 1, hk, hs, i, hi => by
    have hp := sing_piv hs k (by omega)
    have hle := piv_le (rs m a k).a (show k < 4 by omega)
    rw [sing, Bool.or_eq_false_iff] at hs
    exact stepR_D h0 h1 (by omega) (by omega) (rs_D a y k (by omega) hs.1) i hi
end
def Un (a : Nat → UInt8) (k : Nat) : Prop := ∀ i, i < 4 → ∀ j, j < k → a (i * 4 + j) = if i = j then 1 else 0
section
variable {m : Nat} (h0 : 256 ≤ m) (h1 : m < 512)
theorem elN_key {a b : Nat → UInt8} {k : Nat} (hk : k < 4) : ∀ r, r ≤ 4 → ∀ t, t < 4 → (elN m k a b r).1 (k * 4 + t) = a (k * 4 + t)
  | 0, _, t, _ => rfl
  | r + 1, hr, t, ht => by
    by_cases hrk : r = k
    · subst hrk; rw [elN_same]; exact elN_key hk r (by omega) t ht
    · rw [elN_other hrk]
      show elm m _ k r _ 4 (k * 4 + t) = _
      rw [elm_row m _ _ ht, if_neg (by omega)]
      exact elN_key hk r (by omega) t ht
theorem elN_lo {a b : Nat → UInt8} {k j : Nat} (hk : k < 4) (hj : j < k) (hz : a (k * 4 + j) = 0) : ∀ r, r ≤ 4 → ∀ i, i < 4 → (elN m k a b r).1 (i * 4 + j) = a (i * 4 + j)
  | 0, _, i, _ => rfl
  | r + 1, hr, i, hi => by
    have ih := elN_lo (b := b) hk hj hz r (by omega)
    by_cases hrk : r = k
    · subst hrk; rw [elN_same]; exact ih i hi
    · rw [elN_other hrk]
      show elm m _ k r _ 4 (i * 4 + j) = _
      rw [elm_row m _ _ (by omega)]
      by_cases hir : i = r
      · subst hir
        rw [if_pos rfl, elN_key hk i (by omega) j (by omega), hz, tm_zeroR, UInt8.xor_zero]
        exact ih i hi
      · rw [if_neg hir]; exact ih i hi
include h0 h1 in
theorem elN_col {a b : Nat → UInt8} {k : Nat} (hk : k < 4) (hz : a (k * 4 + k) = 1) : ∀ r, r ≤ 4 → ∀ i, i < r → i ≠ k → (elN m k a b r).1 (i * 4 + k) = 0
  | 0, _, i, hi, _ => absurd hi (by omega)
  | r + 1, hr, i, hi, hik => by
    by_cases hrk : r = k
    · subst hrk; rw [elN_same]; exact elN_col hk hz r (by omega) i (by omega) hik
    · rw [elN_other hrk]
      show elm m _ k r _ 4 (i * 4 + k) = _
      rw [elm_row m _ _ hk]
      by_cases hir : i = r
      · subst hir
        rw [if_pos rfl, elN_key hk i (by omega) k hk, hz, tm_oneR h0 h1, UInt8.xor_self]
      · rw [if_neg hir]; exact elN_col hk hz r (by omega) i (by omega) hik
include h0 h1 in
theorem stepR_U (hf : fieldB m = true) {k : Nat} {s : RS} (hk : k < 4) (hp : piv s.a k < 4) (h : Un s.a k) : Un (stepR m k s).a (k + 1) := by
  have hle := (piv_le s.a hk).1
  have hnz := piv_end hk hp
  generalize hpe : piv s.a k = p at hp hle hnz
  have w : swp s.a p k (k * 4 + k) = s.a (p * 4 + k) := by rw [swp_at s.a hk, if_pos rfl]
  have hw : s.a (p * 4 + k) ≠ 0 := by simpa using hnz
  have hs : Un (swp s.a p k) k := fun i hi j hj => by
    rw [swp_at s.a (by omega)]
    by_cases hik : i = k
    · rw [if_pos hik, h p hp j hj, if_neg (by omega), if_neg (by omega)]
    · rw [if_neg hik]
      by_cases hip : i = p
      · rw [if_pos hip, h k hk j hj, if_neg (by omega), if_neg (by omega)]
      · rw [if_neg hip, h i hi j hj]
  have hc : Un (scl m (swp s.a p k) k (inv m (swp s.a p k (k * 4 + k))) 4) k := fun i hi j hj => by
    rw [scl_row m _ _ (by omega)]
    by_cases hik : i = k
    · rw [if_pos hik, hs k hk j hj, if_neg (by omega), if_neg (by omega), tm_zero]
    · rw [if_neg hik, hs i hi j hj]
  have h11 : scl m (swp s.a p k) k (inv m (swp s.a p k (k * 4 + k))) 4 (k * 4 + k) = 1 := by
    rw [scl_row m _ _ hk, if_pos rfl, w, tm_inv h0 h1 hf hw]
  intro i hi j hj
  unfold stepR
  rw [hpe]
  by_cases hjk : j < k
  · show (elN m k _ _ 4).1 (i * 4 + j) = _
    rw [elN_lo hk hjk (by rw [hc k hk j hjk, if_neg (by omega)]) 4 (by omega) i hi, hc i hi j hjk]
  · have hjk : j = k := by omega
    subst hjk
    show (elN m j _ _ 4).1 (i * 4 + j) = _
    by_cases hij : i = j
    · subst hij
      rw [if_pos rfl, elN_key hi 4 (by omega) i hi, h11]
    · rw [if_neg hij, elN_col h0 h1 hk h11 4 (by omega) i hi hij]
include h0 h1 in
theorem rs_U (hf : fieldB m = true) (a : Nat → UInt8) : ∀ k, k ≤ 4 → sing m a k = false → Un (rs m a k).a k
  | 0, _, _ => fun i _ j hj => absurd hj (by omega)
  | k + 1, hk, hs => by
    have hp := sing_piv hs k (by omega)
    have hle := piv_le (rs m a k).a (show k < 4 by omega)
    rw [sing, Bool.or_eq_false_iff] at hs
    exact stepR_U h0 h1 hf (by omega) (by omega) (rs_U hf a k (by omega) hs.1)
include h0 h1 in
theorem backF_D (hf : fieldB m = true) {a : Nat → UInt8} (hd : detF m a ≠ 0) (y : Nat → UInt8) {i : Nat} (hi : i < 4) : D m (backF m a) (D m a y) i = y i := by
  have hs : sing m a 4 = false := by
    cases hs : sing m a 4 with
    | false => rfl
    | true => exact absurd (by unfold detF; rw [hs]; rfl) hd
  have hb : backF m a = (rs m a 4).b := by unfold backF; rw [hs]; rfl
  rw [hb, rs_D h0 h1 a y 4 (by omega) hs i hi]
  have hU := rs_U h0 h1 hf a 4 (by omega) hs
  rw [← D_unit h0 h1 y hi]
  unfold D
  refine dt_cong (fun t ht => ?_) (fun _ _ => rfl)
  rw [hU i hi t ht]
  unfold unitF unitP
  by_cases h : i = t
  · rw [if_pos h, if_pos (by omega)]
  · rw [if_neg h, if_neg (by omega)]
theorem mix_D (a b : Nat → UInt8) (c i : Nat) : mxP m a b c i 4 = D m a (fun t => b (4 * c + t)) i := rfl
end
end Go.Proofs.YtenkjbkcdcionaaGreat
/- Determinants: of products, and 0 exactly where something but 0 becomes 0. Plain. -/
namespace Go.Proofs.YtenkjbkcdcionaaGreat
set_option linter.unusedSimpArgs false
set_option linter.unusedVariables false
set_option maxRecDepth 20000
set_option maxHeartbeats 1000000
open Go.Abs

section
variable {m : Nat} (h0 : 256 ≤ m) (h1 : m < 512)
include h0 h1
end
theorem c4 {i : Nat} (h : i < 4) : i = 0 ∨ i = 1 ∨ i = 2 ∨ i = 3 := by omega
section
variable {m : Nat} (h0 : 256 ≤ m) (h1 : m < 512)
include h0 h1
end
section
variable {m : Nat} (h0 : 256 ≤ m) (h1 : m < 512)
include h0 h1
omit h0 h1 in
theorem D_cong {a y z : Nat → UInt8} {i : Nat} (h : ∀ t, t < 4 → y t = z t) : D m a y i = D m a z i := dt_cong (fun _ _ => rfl) h
omit h0 h1 in
theorem dt4 (r y : Nat → UInt8) : dt m r y 4 = 0 ^^^ tm m (r 0) (y 0) ^^^ tm m (r 1) (y 1) ^^^ tm m (r 2) (y 2) ^^^ tm m (r 3) (y 3) := rfl
omit h0 h1 in
theorem D_zeroY (a : Nat → UInt8) (i : Nat) : D m a (fun _ => 0) i = 0 := by
  show 0 ^^^ tm m _ 0 ^^^ tm m _ 0 ^^^ tm m _ 0 ^^^ tm m _ 0 = 0
  simp [tm_zeroR]
theorem ker_ns (hf : fieldB m = true) {a y : Nat → UInt8} (hd : detF m a ≠ 0) (hy : ∀ i, i < 4 → D m a y i = 0) {i : Nat} (hi : i < 4) : y i = 0 := by
  rw [← backF_D h0 h1 hf hd y hi, D_cong (z := fun _ => 0) hy, D_zeroY]
end
end Go.Proofs.YtenkjbkcdcionaaGreat
/- How many columns a part of a matrix leads to 0: 256 with the free places as exponent. Plain. -/
namespace Go.Proofs.YtenkjbkcdcionaaGreat
set_option linter.unusedSimpArgs false
set_option linter.unusedVariables false
set_option maxRecDepth 20000
set_option maxHeartbeats 1000000
open Go.Abs

def sumI (f : Nat → Int) : Nat → Int
  | 0 => 0
  | n + 1 => sumI f n + f n
theorem sumI_cong {f g : Nat → Int} : ∀ {n : Nat}, (∀ i, i < n → f i = g i) → sumI f n = sumI g n
  | 0, _ => rfl
  | n + 1, h => by unfold sumI; rw [sumI_cong fun i hi => h i (by omega), h n (by omega)]
theorem sumI_zero : ∀ n, sumI (fun _ => 0) n = 0
  | 0 => rfl
  | n + 1 => by unfold sumI; rw [sumI_zero n]; rfl
theorem sumI_add (f g : Nat → Int) : ∀ n, sumI (fun i => f i + g i) n = sumI f n + sumI g n
  | 0 => rfl
  | n + 1 => by unfold sumI; rw [sumI_add f g n]; omega
theorem sumI_mul (c : Int) (f : Nat → Int) : ∀ n, sumI (fun i => c * f i) n = c * sumI f n
  | 0 => by unfold sumI; rw [Int.mul_zero]
  | n + 1 => by unfold sumI; rw [sumI_mul c f n, Int.mul_add]
theorem sumI_const (c : Int) : ∀ n : Nat, sumI (fun _ => c) n = (n : Int) * c
  | 0 => by unfold sumI; rw [Int.natCast_zero, Int.zero_mul]
  | n + 1 => by unfold sumI; rw [sumI_const c n, Int.natCast_succ, Int.add_mul, Int.one_mul]
theorem sumI_comm (f : Nat → Nat → Int) (k : Nat) : ∀ n, sumI (fun i => sumI (fun j => f i j) k) n = sumI (fun j => sumI (fun i => f i j) n) k
  | 0 => by show 0 = _; rw [show (fun j => sumI (fun i => f i j) 0) = fun _ => 0 from rfl, sumI_zero]
  | n + 1 => by
    show sumI (fun i => sumI (fun j => f i j) k) n + sumI (fun j => f n j) k = sumI (fun j => sumI (fun i => f i j) n + f n j) k
    rw [sumI_comm f k n, sumI_add]
theorem sumI_one {f : Nat → Int} {k : Nat} : ∀ {n : Nat}, k < n → (∀ i, i < n → i ≠ k → f i = 0) → sumI f n = f k
  | 0, h, _ => absurd h (Nat.not_lt_zero k)
  | n + 1, h, hf => by
    unfold sumI
    by_cases e : k = n
    · subst e
      rw [sumI_cong (g := fun _ => 0) fun i hi => hf i (by omega) (by omega), sumI_zero, Int.zero_add]
    · rw [sumI_one (k := k) (by omega) fun i hi hne => hf i (by omega) hne, hf n (by omega) (by omega), Int.add_zero]
theorem sumI_nonneg {f : Nat → Int} : ∀ {n : Nat}, (∀ i, i < n → 0 ≤ f i) → 0 ≤ sumI f n
  | 0, _ => Int.le_refl 0
  | n + 1, h => by
    have := sumI_nonneg (f := f) (n := n) fun i hi => h i (by omega)
    have := h n (by omega)
    unfold sumI; omega
def sumB (f : UInt8 → Int) : Int := sumI (fun i => f (UInt8.ofNat i)) 256
theorem sumB_cong {f g : UInt8 → Int} (h : ∀ b, f b = g b) : sumB f = sumB g := sumI_cong fun i _ => h _
theorem sumB_const (c : Int) : sumB (fun _ => c) = 256 * c := sumI_const c 256
theorem sumB_one {f : UInt8 → Int} (b : UInt8) (h : ∀ c, c ≠ b → f c = 0) : sumB f = f b := by
  unfold sumB
  rw [sumI_one (k := b.toNat) (u8_lt b) fun i hi hne => h _ fun e => hne (by rw [← e, u8_ofNat_toNat hi]), UInt8.ofNat_toNat]
theorem sumB_zero : sumB (fun _ => 0) = 0 := sumI_zero 256
attribute [irreducible] sumB

def sT (C : Nat) : Nat → ((Nat → UInt8) → Int) → (Nat → UInt8) → Int
  | 0, W, v => W v
  | k + 1, W, v => if C.testBit (3 - k) = true then sumB fun b => sT C k W (upd v (3 - k) b) else sT C k W (upd v (3 - k) 0)
theorem sT_t {C k : Nat} {W : (Nat → UInt8) → Int} {v : Nat → UInt8} (h : C.testBit (3 - k) = true) : sT C (k + 1) W v = sumB fun b => sT C k W (upd v (3 - k) b) := by rw [sT, if_pos h]
theorem sT_f {C k : Nat} {W : (Nat → UInt8) → Int} {v : Nat → UInt8} (h : C.testBit (3 - k) = false) : sT C (k + 1) W v = sT C k W (upd v (3 - k) 0) := by rw [sT, h]; rfl
theorem upd_comm {v : Nat → UInt8} {i j : Nat} (h : i ≠ j) (a b : UInt8) : upd (upd v i a) j b = upd (upd v j b) i a := by
  funext t; unfold upd
  by_cases h1 : t = j
  · rw [if_pos h1, if_neg (by omega), if_pos h1]
  · rw [if_neg h1]
    by_cases h2 : t = i
    · rw [if_pos h2, if_pos h2]
    · rw [if_neg h2, if_neg h2, if_neg h1]
theorem sT_add (C : Nat) (f g : (Nat → UInt8) → Int) : ∀ k v, sT C k (fun u => f u + g u) v = sT C k f v + sT C k g v
  | 0, v => rfl
  | k + 1, v => by
    cases h : C.testBit (3 - k)
    · rw [sT_f h, sT_f h, sT_f h, sT_add C f g k]
    · rw [sT_t h, sT_t h, sT_t h]
      unfold sumB
      rw [← sumI_add]
      exact sumI_cong fun i _ => sT_add C f g k _
theorem sT_mul (C : Nat) (c : Int) (f : (Nat → UInt8) → Int) : ∀ k v, sT C k (fun u => c * f u) v = c * sT C k f v
  | 0, v => rfl
  | k + 1, v => by
    cases h : C.testBit (3 - k)
    · rw [sT_f h, sT_f h, sT_mul C c f k]
    · rw [sT_t h, sT_t h]
      unfold sumB
      rw [← sumI_mul]
      exact sumI_cong fun i _ => sT_mul C c f k _
theorem sT_zero (C : Nat) : ∀ k v, sT C k (fun _ => 0) v = 0
  | 0, v => rfl
  | k + 1, v => by
    cases h : C.testBit (3 - k)
    · rw [sT_f h, sT_zero C k]
    · rw [sT_t h, sumB_cong (g := fun _ => 0) fun b => sT_zero C k _, sumB_zero]
theorem sT_sum (C k : Nat) (f : Nat → (Nat → UInt8) → Int) (v : Nat → UInt8) : ∀ n, sT C k (fun u => sumI (fun x => f x u) n) v = sumI (fun x => sT C k (f x) v) n
  | 0 => sT_zero C k v
  | n + 1 => by
    show sT C k (fun u => sumI (fun x => f x u) n + f n u) v = sumI (fun x => sT C k (f x) v) n + sT C k (f n) v
    rw [sT_add, sT_sum C k f v n]
theorem sT_nonneg {C : Nat} {f : (Nat → UInt8) → Int} (h : ∀ u, 0 ≤ f u) : ∀ k v, 0 ≤ sT C k f v
  | 0, v => h v
  | k + 1, v => by
    cases hc : C.testBit (3 - k)
    · rw [sT_f hc]; exact sT_nonneg h k _
    · rw [sT_t hc]; unfold sumB; exact sumI_nonneg fun i _ => sT_nonneg h k _
theorem sT_swap {C : Nat} {W : (Nat → UInt8) → Int} {j : Nat} : ∀ k v, k ≤ 4 → j < 4 - k → sumB (fun b => sT C k W (upd v j b)) = sT C k (fun u => sumB fun b => W (upd u j b)) v
  | 0, v, _, _ => rfl
  | k + 1, v, hk, hj => by
    cases h : C.testBit (3 - k)
    · rw [sT_f h, ← sT_swap k (upd v (3 - k) 0) (by omega) (by omega)]
      refine sumB_cong fun b => ?_
      rw [sT_f h, upd_comm (by omega)]
    · rw [sT_t h]
      have e : ∀ b', sT C k (fun u => sumB fun b => W (upd u j b)) (upd v (3 - k) b') = sumB fun b => sT C k W (upd (upd v (3 - k) b') j b) := fun b' => (sT_swap k _ (by omega) (by omega)).symm
      rw [sumB_cong e]
      have e2 : ∀ b, sT C (k + 1) W (upd v j b) = sumB fun b' => sT C k W (upd (upd v (3 - k) b') j b) := fun b => by
        rw [sT_t h]
        exact sumB_cong fun b' => by rw [upd_comm (by omega)]
      rw [sumB_cong e2]
      unfold sumB
      rw [sumI_comm]
theorem sT_cong {C : Nat} {f g : (Nat → UInt8) → Int} : ∀ k v, k ≤ 4 → (∀ u, (∀ t, t < 4 - k → u t = v t) → (∀ t, 4 - k ≤ t → t < 4 → C.testBit t = false → u t = 0) → f u = g u) → sT C k f v = sT C k g v
  | 0, v, _, h => h v (fun _ _ => rfl) fun t h1 h2 => by omega
  | k + 1, v, hk, h => by
    have key : ∀ b, (C.testBit (3 - k) = false → b = 0) → sT C k f (upd v (3 - k) b) = sT C k g (upd v (3 - k) b) := fun b hb => sT_cong k _ (by omega) fun u h1 h2 => h u (fun t ht => by
        rw [h1 t (by omega)]; unfold upd; rw [if_neg (by omega)]) fun t h3 h4 h5 => by
        by_cases e : t = 3 - k
        · subst e; rw [h1 _ (by omega)]; unfold upd; rw [if_pos rfl]; exact hb h5
        · exact h2 t (by omega) h4 h5
    cases hc : C.testBit (3 - k)
    · rw [sT_f hc, sT_f hc]; exact key 0 fun _ => rfl
    · rw [sT_t hc, sT_t hc]; exact sumB_cong fun b => key b fun h => by rw [hc] at h; cases h
open Classical in
theorem sT_all {C : Nat} {W : (Nat → UInt8) → Int} : ∀ k v, k ≤ 4 → sT C k W v = sT 15 k (fun u => if (∀ t, 4 - k ≤ t → t < 4 → C.testBit t = false → u t = 0) then W u else 0) v
  | 0, v, _ => by show W v = if _ then _ else _; rw [if_pos fun t h1 h2 => by omega]
  | k + 1, v, hk => by
    have h15 : (15 : Nat).testBit (3 - k) = true := by
      have : 3 - k = 0 ∨ 3 - k = 1 ∨ 3 - k = 2 ∨ 3 - k = 3 := by omega
      rcases this with e | e | e | e <;> rw [e] <;> rfl
    have ih := fun b => sT_all (C := C) (W := W) k (upd v (3 - k) b) (by omega)
    rw [sT_t h15]
    have key : ∀ b, (C.testBit (3 - k) = false → b = 0) → sT C k W (upd v (3 - k) b) = sT 15 k (fun u => if (∀ t, 4 - (k + 1) ≤ t → t < 4 → C.testBit t = false → u t = 0) then W u else 0) (upd v (3 - k) b) := fun b hb => by
      rw [ih b]
      refine sT_cong k _ (by omega) fun u h1 _ => ?_
      have hu : u (3 - k) = b := by rw [h1 _ (by omega)]; unfold upd; rw [if_pos rfl]
      by_cases hall : ∀ t, 4 - k ≤ t → t < 4 → C.testBit t = false → u t = 0
      · rw [if_pos hall, if_pos fun t h2 h3 h4 => by
          by_cases e : t = 3 - k
          · subst e; rw [hu]; exact hb h4
          · exact hall t (by omega) h3 h4]
      · rw [if_neg hall, if_neg fun h => hall fun t h2 h3 h4 => h t (by omega) h3 h4]
    cases hc : C.testBit (3 - k)
    · rw [sT_f hc, key 0 fun _ => rfl]
      symm
      refine sumB_one (f := fun b => sT 15 k _ (upd v (3 - k) b)) 0 fun c hne => ?_
      rw [sT_cong (g := fun _ => 0) k _ (by omega) fun u h1 _ => ?_, sT_zero]
      have hu : u (3 - k) = c := by rw [h1 _ (by omega)]; unfold upd; rw [if_pos rfl]
      exact if_neg fun h => hne (by rw [← hu]; exact h (3 - k) (by omega) (by omega) hc)
    · rw [sT_t hc]; exact sumB_cong fun b => key b fun h => by rw [hc] at h; cases h

/-! ### Elimination -/
theorem elE_at {m L r j : Nat} {s : Nat → Nat} {v : UInt8} {E : Nat → Nat → UInt8} (hs : Pm L s) (hr : r < L) : ∀ T, r + 1 + T ≤ L →
    (elE m s r j v E T (s r) = E (s r)) ∧ (∀ t, t < T → elE m s r j v E T (s (r + 1 + t)) = rowN m (tm m (E (s (r + 1 + t)) j) v) (E (s (r + 1 + t))) (E (s r))) ∧ (∀ t, T ≤ t → r + 1 + t < L → elE m s r j v E T (s (r + 1 + t)) = E (s (r + 1 + t)))
  | 0, _ => ⟨rfl, fun t ht => absurd ht (Nat.not_lt_zero t), fun _ _ _ => rfl⟩
  | T + 1, hT => by
    obtain ⟨i1, i2, i3⟩ := elE_at (m := m) (j := j) (v := v) (E := E) hs hr T (by omega)
    have hne : s r ≠ s (r + 1 + T) := fun e => by have := hs.inj r (r + 1 + T) hr (by omega) e; omega
    have hnt : ∀ t, r + 1 + t < L → t ≠ T → s (r + 1 + t) ≠ s (r + 1 + T) := fun t ht hne e => by have := hs.inj _ _ ht (by omega) e; omega
    refine ⟨?_, fun t ht => ?_, fun t ht htL => ?_⟩
    · show upd _ (s (r + 1 + T)) _ (s r) = _
      unfold upd; rw [if_neg hne]; exact i1
    · show upd _ (s (r + 1 + T)) _ (s (r + 1 + t)) = _
      by_cases e : t = T
      · subst e
        unfold upd
        rw [if_pos rfl, i3 t (Nat.le_refl _) (by omega), i1]
      · unfold upd
        rw [if_neg (hnt t (by omega) e)]
        exact i2 t (by omega)
    · show upd _ (s (r + 1 + T)) _ (s (r + 1 + t)) = _
      unfold upd
      rw [if_neg (hnt t htL (by omega))]
      exact i3 t (by omega) htL
section
variable {m : Nat} (h0 : 256 ≤ m) (h1 : m < 512)
include h0 h1
theorem dt_row (f : UInt8) (x y w : Nat → UInt8) : dt m (rowN m f x y) w 4 = dt m x w 4 ^^^ tm m f (dt m y w 4) := by
  show dt m (fun c => x c ^^^ tm m f (y c)) w 4 = _
  rw [dt_xor h0 h1, dt_sclL h0 h1]
omit h0 h1 in
theorem dt_upd (x u : Nat → UInt8) (b : UInt8) {j : Nat} (hj : j < 4) : dt m x (upd u j b) 4 = dt m x (upd u j 0) 4 ^^^ tm m (x j) b := by
  rw [dt4, dt4]
  rcases c4 hj with rfl | rfl | rfl | rfl <;> simp [upd, tm_zeroR, UInt8.xor_assoc, UInt8.xor_comm]
  · ac_rfl
  · ac_rfl
def KerS (m L : Nat) (S : RkSt) (w : Nat → UInt8) : Prop := ∀ p, S.r ≤ p → p < L → dt m (S.E (S.s p)) w 4 = 0
end
open Classical in
noncomputable def wS (m L : Nat) (S : RkSt) : (Nat → UInt8) → Int := fun w => if KerS m L S w then 1 else 0
section
variable {m : Nat} (h0 : 256 ≤ m) (h1 : m < 512) (hf : fieldB m = true)
include h0 h1 hf
theorem pivot_one {L j : Nat} {S : RkSt} (hP : Pm L S.s) (hr : S.r ≤ L) (hL : L ≤ 4) (hj : j < 4) (hp : S.r + gpC L S.E S.s S.r j ≠ L) (u : Nat → UInt8) :
    sumB (fun b => wS m L S (upd u j b)) = wS m L (gstep m L j S) u ∧ ∀ p, S.r + 1 ≤ p → p < L → (gstep m L j S).E ((gstep m L j S).s p) j = 0 := by
  have hle := gp_le (E := S.E) (s := S.s) (j := j) hr
  have hend := gp_end (E := S.E) (s := S.s) (j := j) hr hL hp
  rw [gstep_yes hp]
  have hpl : S.r + gpC L S.E S.s S.r j < L := by omega
  have hrp : S.r ≤ S.r + gpC L S.E S.s S.r j := Nat.le_add_right _ _
  generalize S.r + gpC L S.E S.s S.r j = p0 at *
  obtain ⟨E, s, r⟩ := S
  simp only [] at hP hr hp hend hpl hrp ⊢
  have hrL : r < L := by omega
  have hPs := Pm_sw hP hpl hrL
  have hsr : swS s p0 r r = s p0 := swS_at s p0 r
  obtain ⟨g1, g2, _⟩ := elE_at (m := m) (j := j) (v := inv m (E (s p0) j)) (E := E) hPs hrL (L - (r + 1)) (by omega)
  have hpv : E (s p0) j ≠ 0 := by simpa using hend
  -- the rows behind
  have row : ∀ p, r + 1 ≤ p → p < L → ∀ w, dt m (elE m (swS s p0 r) r j (inv m (E (s p0) j)) E (L - (r + 1)) (swS s p0 r p)) w 4 = dt m (E (swS s p0 r p)) w 4 ^^^ tm m (tm m (E (swS s p0 r p) j) (inv m (E (s p0) j))) (dt m (E (s p0)) w 4) := fun p hp1 hp2 w => by
    have := g2 (p - (r + 1)) (by omega)
    rw [show r + 1 + (p - (r + 1)) = p by omega, hsr] at this
    rw [this, dt_row h0 h1]
  have zer : ∀ p, r + 1 ≤ p → p < L → elE m (swS s p0 r) r j (inv m (E (s p0) j)) E (L - (r + 1)) (swS s p0 r p) j = 0 := fun p hp1 hp2 => by
    have := g2 (p - (r + 1)) (by omega)
    rw [show r + 1 + (p - (r + 1)) = p by omega, hsr] at this
    rw [this]
    show E (swS s p0 r p) j ^^^ tm m (tm m (E (swS s p0 r p) j) (inv m (E (s p0) j))) (E (s p0) j) = 0
    rw [tm_assoc h0 h1, tm_comm h0 h1 (inv m _), tm_inv h0 h1 hf hpv, tm_oneR h0 h1, UInt8.xor_self]
  refine ⟨?_, zer⟩
  -- the kernels agree
  have ker : ∀ w, KerS m L ⟨E, s, r⟩ w ↔ dt m (E (s p0)) w 4 = 0 ∧ KerS m L ⟨elE m (swS s p0 r) r j (inv m (E (s p0) j)) E (L - (r + 1)), swS s p0 r, r + 1⟩ w := fun w => by
    have all : KerS m L ⟨E, s, r⟩ w ↔ ∀ p, r ≤ p → p < L → dt m (E (swS s p0 r p)) w 4 = 0 := by
      have sw : ∀ p, swS s p0 r p = s (if p = r then p0 else if p = p0 then r else p) := fun p => swS_eq s p0 r p
      constructor
      · intro h p h1' h2'
        have h' : ∀ p, r ≤ p → p < L → dt m (E (s p)) w 4 = 0 := h
        rw [sw]
        refine h' _ ?_ ?_ <;> (split; omega; split <;> omega)
      · intro h p (h1' : r ≤ p) h2'
        show dt m (E (s p)) w 4 = 0
        have := h (if p = r then p0 else if p = p0 then r else p) (by split; omega; split <;> omega) (by split; omega; split <;> omega)
        rw [sw] at this
        have e : (if (if p = r then p0 else if p = p0 then r else p) = r then p0 else if (if p = r then p0 else if p = p0 then r else p) = p0 then r else (if p = r then p0 else if p = p0 then r else p)) = p := by
          by_cases a1 : p = r
          · rw [if_pos a1]
            by_cases a2 : p0 = r
            · rw [if_pos a2]; omega
            · rw [if_neg a2, if_pos rfl]; omega
          · rw [if_neg a1]
            by_cases a2 : p = p0
            · rw [if_pos a2, if_pos rfl]; omega
            · rw [if_neg a2, if_neg a1, if_neg a2]
        rw [e] at this
        exact this
    rw [all]
    constructor
    · intro h
      have hz : dt m (E (s p0)) w 4 = 0 := by have := h r (Nat.le_refl _) hrL; rwa [hsr] at this
      refine ⟨hz, fun p hp1 hp2 => ?_⟩
      show dt m (elE m (swS s p0 r) r j (inv m (E (s p0) j)) E (L - (r + 1)) (swS s p0 r p)) w 4 = 0
      rw [row p hp1 hp2, hz, tm_zeroR, UInt8.xor_zero]
      exact h p (by have : r + 1 ≤ p := hp1; omega) hp2
    · intro ⟨hz, h⟩ p hp1 hp2
      by_cases e : p = r
      · subst e; rw [hsr]; exact hz
      · have := h p (show r + 1 ≤ p by omega) hp2
        have h3 : dt m (elE m (swS s p0 r) r j (inv m (E (s p0) j)) E (L - (r + 1)) (swS s p0 r p)) w 4 = 0 := this
        rwa [row p (by omega) hp2, hz, tm_zeroR, UInt8.xor_zero] at h3
  -- the rows behind do not mind the place j
  have nomind : ∀ b, KerS m L ⟨elE m (swS s p0 r) r j (inv m (E (s p0) j)) E (L - (r + 1)), swS s p0 r, r + 1⟩ (upd u j b) ↔ KerS m L ⟨elE m (swS s p0 r) r j (inv m (E (s p0) j)) E (L - (r + 1)), swS s p0 r, r + 1⟩ u := fun b => by
    have e : ∀ p, r + 1 ≤ p → p < L → dt m (elE m (swS s p0 r) r j (inv m (E (s p0) j)) E (L - (r + 1)) (swS s p0 r p)) (upd u j b) 4 = dt m (elE m (swS s p0 r) r j (inv m (E (s p0) j)) E (L - (r + 1)) (swS s p0 r p)) u 4 := fun p hp1 hp2 => by
      have h2 := dt_upd (m := m) (elE m (swS s p0 r) r j (inv m (E (s p0) j)) E (L - (r + 1)) (swS s p0 r p)) u (u j) hj
      rw [zer p hp1 hp2, tm_zero, UInt8.xor_zero] at h2
      rw [dt_upd _ u b hj, zer p hp1 hp2, tm_zero, UInt8.xor_zero, ← h2]
      congr 1
      funext t; unfold upd; split
      · rename_i e; rw [e]
      · rfl
    constructor
    · intro h p hp1 hp2; rw [← e p hp1 hp2]; exact h p hp1 hp2
    · intro h p hp1 hp2; show dt m _ _ 4 = 0; rw [e p hp1 hp2]; exact h p hp1 hp2
  -- one byte leads the pivot's row to 0
  have only : ∀ b, dt m (E (s p0)) (upd u j b) 4 = 0 ↔ b = tm m (inv m (E (s p0) j)) (dt m (E (s p0)) (upd u j 0) 4) := fun b => by
    rw [dt_upd _ u b hj]
    constructor
    · intro h
      have h2 := u8_xor_eq h
      rw [h2, ← tm_assoc h0 h1, tm_comm h0 h1 (inv m _), tm_inv h0 h1 hf hpv, tm_one h0 h1]
    · intro h
      rw [h, ← tm_assoc h0 h1, tm_inv h0 h1 hf hpv, tm_one h0 h1, UInt8.xor_self]
  rw [sumB_one (f := fun b => wS m L ⟨E, s, r⟩ (upd u j b)) (tm m (inv m (E (s p0) j)) (dt m (E (s p0)) (upd u j 0) 4)) fun c hne => by
    unfold wS
    rw [if_neg fun h => hne ((only c).1 ((ker _).1 h).1)]]
  unfold wS
  by_cases hk : KerS m L ⟨elE m (swS s p0 r) r j (inv m (E (s p0) j)) E (L - (r + 1)), swS s p0 r, r + 1⟩ u
  · rw [if_pos hk, if_pos ((ker _).2 ⟨(only _).2 rfl, (nomind _).2 hk⟩)]
  · rw [if_neg hk, if_neg fun h => hk ((nomind _).1 ((ker _).1 h).2)]
end
end Go.Proofs.YtenkjbkcdcionaaGreat
/- Patterns: sums of signed counts are counts of columns. Plain. -/
namespace Go.Proofs.YtenkjbkcdcionaaGreat
set_option linter.unusedSimpArgs false
set_option linter.unusedVariables false
set_option maxRecDepth 20000
set_option maxHeartbeats 1000000
open Go.Abs

section
variable {m : Nat} (h0 : 256 ≤ m) (h1 : m < 512) (hf : fieldB m = true)
theorem gstep_zero {L j c : Nat} {S : RkSt} (hP : Pm L S.s) (hr : S.r ≤ L) (hz : ∀ p, S.r ≤ p → p < L → S.E (S.s p) c = 0) : ∀ p, (gstep m L j S).r ≤ p → p < L → (gstep m L j S).E ((gstep m L j S).s p) c = 0 := by
  by_cases hp : S.r + gpC L S.E S.s S.r j = L
  · rw [gstep_no hp]; exact hz
  · have hle := gp_le (E := S.E) (s := S.s) (j := j) hr
    rw [gstep_yes hp]
    have hpl : S.r + gpC L S.E S.s S.r j < L := by omega
    have hrp : S.r ≤ S.r + gpC L S.E S.s S.r j := Nat.le_add_right _ _
    generalize S.r + gpC L S.E S.s S.r j = p0 at *
    obtain ⟨E, s, r⟩ := S
    simp only [] at hP hr hp hpl hrp hz ⊢
    have hrL : r < L := by omega
    have hPs := Pm_sw hP hpl hrL
    have hzs : ∀ p, r ≤ p → p < L → E (swS s p0 r p) c = 0 := fun p h1' h2' => by
      rw [swS_eq]
      exact hz _ (by split; omega; split <;> omega) (by split; omega; split <;> omega)
    obtain ⟨_, g2, _⟩ := elE_at (m := m) (j := j) (v := inv m (E (s p0) j)) (E := E) hPs hrL (L - (r + 1)) (by omega)
    intro p hp1 hp2
    have := g2 (p - (r + 1)) (by omega)
    rw [show r + 1 + (p - (r + 1)) = p by omega] at this
    rw [this]
    show E (swS s p0 r p) c ^^^ tm m _ (E (swS s p0 r r) c) = 0
    rw [hzs p (by omega) hp2, hzs r (Nat.le_refl _) hrL, tm_zeroR, UInt8.xor_zero]
def ZeroB (L C j : Nat) (S : RkSt) : Prop := ∀ c, c < j → C.testBit c = true → ∀ p, S.r ≤ p → p < L → S.E (S.s p) c = 0
def frS (m L C : Nat) (E : Nat → Nat → UInt8) : Nat → Nat
  | 0 => 0
  | k + 1 => frS m L C E k + (if C.testBit (3 - k) = true ∧ (rkS m L C E (3 - k)).r + gpC L (rkS m L C E (3 - k)).E (rkS m L C E (3 - k)).s (rkS m L C E (3 - k)).r (3 - k) = L then 1 else 0)
include h0 h1 hf in
theorem rkS_zero {L C : Nat} (hL : L ≤ 4) (E : Nat → Nat → UInt8) : ∀ j, j ≤ 4 → ZeroB L C j (rkS m L C E j)
  | 0, _ => fun c hc => absurd hc (Nat.not_lt_zero c)
  | j + 1, hj => by
    have ih := rkS_zero (C := C) hL E j (by omega)
    obtain ⟨hP, hr⟩ := rkS_inv m L C E j
    intro c hc hC p hp1 hp2
    cases hb : C.testBit j
    · rw [rkS_f hb] at hp1 ⊢
      by_cases e : c = j
      · rw [e, hb] at hC; cases hC
      · exact ih c (by omega) hC p hp1 hp2
    · rw [rkS_t hb] at hp1 ⊢
      by_cases e : c = j
      · subst e
        by_cases hp : (rkS m L C E c).r + gpC L (rkS m L C E c).E (rkS m L C E c).s (rkS m L C E c).r c = L
        · rw [gstep_no hp] at hp1 ⊢
          have := (gp_go (L := L) (E := (rkS m L C E c).E) (s := (rkS m L C E c).s) (r := (rkS m L C E c).r) (j := c) (i := p - (rkS m L C E c).r) (by omega)).2
          rw [show (rkS m L C E c).r + (p - (rkS m L C E c).r) = p by omega] at this
          simpa using this
        · have hrr : (gstep m L c (rkS m L C E c)).r = (rkS m L C E c).r + 1 := by rw [gstep_yes hp]
          rw [hrr] at hp1
          exact (pivot_one h0 h1 hf hP hr hL (by omega) hp fun _ => 0).2 p hp1 hp2
      · exact gstep_zero hP hr (fun q h1' h2' => ih c (by omega) hC q h1' h2') p hp1 hp2
theorem pow_succI (n : Nat) : (256 : Int) * 256 ^ n = 256 ^ (n + 1) := by rw [Int.pow_succ, Int.mul_comm]
include h0 h1 hf in
theorem ker_count {L C : Nat} (hL : L ≤ 4) (E : Nat → Nat → UInt8) : ∀ k v, k ≤ 4 → (∀ c, c < 4 - k → C.testBit c = false → v c = 0) → sT C k (wS m L (rkS m L C E (4 - k))) v = 256 ^ frS m L C E k
  | 0, v, _, hv => by
    show wS m L (rkS m L C E 4) v = 256 ^ 0
    have hz := rkS_zero h0 h1 hf (C := C) hL E 4 (Nat.le_refl _)
    have hk : KerS m L (rkS m L C E 4) v := fun p hp1 hp2 => by
      have key : ∀ c, c < 4 → tm m ((rkS m L C E 4).E ((rkS m L C E 4).s p) c) (v c) = 0 := fun c hc => by
        cases hb : C.testBit c
        · rw [hv c hc hb, tm_zeroR]
        · rw [hz c hc hb p hp1 hp2, tm_zero]
      rw [dt4, key 0 (by omega), key 1 (by omega), key 2 (by omega), key 3 (by omega)]; rfl
    unfold wS
    rw [if_pos hk]
    rfl
  | k + 1, v, hk, hv => by
    rw [show 4 - (k + 1) = 3 - k by omega]
    have hj4 : 4 - k = (3 - k) + 1 := by omega
    obtain ⟨hP, hr⟩ := rkS_inv m L C E (3 - k)
    cases hb : C.testBit (3 - k)
    · have e : frS m L C E (k + 1) = frS m L C E k := by rw [frS, if_neg fun h => by rw [hb] at h; cases h.1]; rfl
      rw [sT_f hb, e, ← rkS_f (E := E) (m := m) (L := L) hb, ← hj4]
      refine ker_count hL E k _ (by omega) fun c hc hC => ?_
      unfold upd
      split
      · rfl
      · exact hv c (by omega) hC
    · rw [sT_t hb]
      have hv' : ∀ b c, c < 4 - k → C.testBit c = false → upd v (3 - k) b c = 0 := fun b c hc hC => by
        unfold upd
        split
        · rename_i e; rw [e, hb] at hC; cases hC
        · exact hv c (by omega) hC
      by_cases hp : (rkS m L C E (3 - k)).r + gpC L (rkS m L C E (3 - k)).E (rkS m L C E (3 - k)).s (rkS m L C E (3 - k)).r (3 - k) = L
      · have e : frS m L C E (k + 1) = frS m L C E k + 1 := by rw [frS, if_pos ⟨hb, hp⟩]
        have es : rkS m L C E (4 - k) = rkS m L C E (3 - k) := by rw [hj4, rkS_t hb, gstep_no hp]
        rw [e, ← pow_succI, ← sumB_const, ← es]
        exact sumB_cong fun b => ker_count hL E k _ (by omega) (hv' b)
      · have e : frS m L C E (k + 1) = frS m L C E k := by rw [frS, if_neg fun h => hp h.2]; rfl
        rw [e, sT_swap k v (by omega) (by omega)]
        have es : (fun u => sumB fun b => wS m L (rkS m L C E (3 - k)) (upd u (3 - k) b)) = wS m L (rkS m L C E (4 - k)) := by
          funext u
          rw [(pivot_one h0 h1 hf hP hr hL (by omega) hp u).1, hj4, rkS_t hb]
        rw [es]
        refine ker_count hL E k v (by omega) fun c hc hC => ?_
        by_cases ec : c = 3 - k
        · rw [ec, hb] at hC; cases hC
        · exact hv c (by omega) hC
theorem fr_rank (m L C : Nat) (E : Nat → Nat → UInt8) : ∀ k, k ≤ 4 → frS m L C E k + (rkS m L C E 4).r + cn C (4 - k) = cn C 4 + (rkS m L C E (4 - k)).r
  | 0, _ => by show 0 + (rkS m L C E 4).r + cn C 4 = cn C 4 + (rkS m L C E 4).r; omega
  | k + 1, hk => by
    have ih := fr_rank m L C E k (by omega)
    have hj4 : 4 - k = (3 - k) + 1 := by omega
    rw [show 4 - (k + 1) = 3 - k by omega]
    cases hb : C.testBit (3 - k)
    · have e : frS m L C E (k + 1) = frS m L C E k := by rw [frS, if_neg fun h => by rw [hb] at h; cases h.1]; rfl
      rw [hj4, rkS_f hb, cn_f hb] at ih
      rw [e]; exact ih
    · rw [hj4, rkS_t hb, cn_t hb] at ih
      by_cases hp : (rkS m L C E (3 - k)).r + gpC L (rkS m L C E (3 - k)).E (rkS m L C E (3 - k)).s (rkS m L C E (3 - k)).r (3 - k) = L
      · have e : frS m L C E (k + 1) = frS m L C E k + 1 := by rw [frS, if_pos ⟨hb, hp⟩]
        rw [gstep_no hp] at ih
        rw [e]; omega
      · have e : frS m L C E (k + 1) = frS m L C E k := by rw [frS, if_neg fun h => hp h.2]; rfl
        have hrr : (gstep m L (3 - k) (rkS m L C E (3 - k))).r = (rkS m L C E (3 - k)).r + 1 := by rw [gstep_yes hp]
        rw [hrr] at ih
        rw [e]; omega
def freeN (m : Nat) (a : Nat → UInt8) (R C : Nat) : Nat := cn C 4 - (rkS m (cn R 4) C (E0 R a) 4).r
theorem free_is (m : Nat) (a : Nat → UInt8) (R C : Nat) : frS m (cn R 4) C (E0 R a) 4 = freeN m a R C := by
  have h := fr_rank m (cn R 4) C (E0 R a) 4 (Nat.le_refl _)
  have e1 : cn C (4 - 4) = 0 := rfl
  have e2 : (rkS m (cn R 4) C (E0 R a) (4 - 4)).r = 0 := rfl
  rw [e1, e2] at h
  unfold freeN; omega
theorem ker_E0 {a : Nat → UInt8} {R : Nat} (hR : R < 16) (C : Nat) (w : Nat → UInt8) : KerS m (cn R 4) (rkS m (cn R 4) C (E0 R a) 0) w ↔ ∀ i, i < 4 → R.testBit i = true → D m a w i = 0 := by
  have hc4 := cn_le R 4
  constructor
  · intro h i hi hb
    have hlt : cn R i < cn R 4 := by
      have h2 := cn_mono R (j := i + 1) 4 (by omega)
      rw [cn_t hb] at h2; omega
    have := h (cn R i) (Nat.zero_le _) hlt
    have e : E0 R a (cn R i) = fun t => a (i * 4 + t) := by funext t; unfold E0; rw [kp_cn R hR i hi hb]
    have h3 : dt m (E0 R a (cn R i)) w 4 = 0 := this
    rw [e] at h3
    exact h3
  · intro h p _ hp
    obtain ⟨k1, k2, _⟩ := kp_lt R hR p (by omega) hp
    exact h (kp R p) k1 k2
end

/-! ### Which places are other than 0 -/
def supp (u : Nat → UInt8) : Nat := (if u 0 = 0 then 0 else 1) + (if u 1 = 0 then 0 else 2) + (if u 2 = 0 then 0 else 4) + (if u 3 = 0 then 0 else 8)
theorem supp_lt (u : Nat → UInt8) : supp u < 16 := by unfold supp; split <;> split <;> split <;> split <;> omega
theorem supp_bit (u : Nat → UInt8) {t : Nat} (ht : t < 4) : (supp u).testBit t = true ↔ u t ≠ 0 := by
  unfold supp
  rcases c4 ht with rfl | rfl | rfl | rfl <;> split <;> split <;> split <;> split <;> simp_all <;> decide
theorem mask_in : ∀ s, s < 16 → ∀ x, x < 16 → (s &&& x = s ↔ ∀ t, t < 4 → x.testBit t = false → s.testBit t = false) := by decide +kernel
theorem supp_in {u : Nat → UInt8} {x : Nat} (hx : x < 16) : supp u &&& x = supp u ↔ ∀ t, t < 4 → x.testBit t = false → u t = 0 := by
  rw [mask_in _ (supp_lt u) x hx]
  constructor
  · intro h t ht hb
    have := h t ht hb
    rcases Decidable.em (u t = 0) with e | e
    · exact e
    · rw [(supp_bit u ht).2 e] at this; cases this
  · intro h t ht hb
    cases hs : (supp u).testBit t with
    | false => rfl
    | true => exact absurd (h t ht hb) ((supp_bit u ht).1 hs)
theorem flip_bit : ∀ y, y < 16 → ∀ t, t < 4 → (15 ^^^ y).testBit t = !y.testBit t := by decide +kernel
theorem flip_lt : ∀ y, y < 16 → 15 ^^^ y < 16 := by decide +kernel
theorem count_all {m : Nat} (h0 : 256 ≤ m) (h1 : m < 512) (hf : fieldB m = true) (a : Nat → UInt8) {x y : Nat} (hx : x < 16) (hy : y < 16) :
    (256 : Int) ^ freeN m a (15 ^^^ y) x = sT 15 4 (fun u => if supp u &&& x = supp u ∧ supp (D m a u) &&& y = supp (D m a u) then 1 else 0) fun _ => 0 := by
  rw [← free_is, ← ker_count h0 h1 hf (cn_le _ 4) (E0 (15 ^^^ y) a) 4 (fun _ => 0) (Nat.le_refl _) (fun c hc => absurd hc (by omega)), sT_all 4 _ (Nat.le_refl _)]
  refine sT_cong 4 _ (Nat.le_refl _) fun u _ _ => ?_
  have e1 : (∀ t, 4 - 4 ≤ t → t < 4 → x.testBit t = false → u t = 0) ↔ supp u &&& x = supp u := by
    rw [supp_in hx]
    exact ⟨fun h t ht => h t (Nat.zero_le _) ht, fun h t _ ht => h t ht⟩
  have e2 : KerS m (cn (15 ^^^ y) 4) (rkS m (cn (15 ^^^ y) 4) x (E0 (15 ^^^ y) a) (4 - 4)) u ↔ supp (D m a u) &&& y = supp (D m a u) := by
    rw [supp_in hy]
    refine (ker_E0 (flip_lt y hy) x u).trans ⟨fun h t ht hb => h t ht (by rw [flip_bit y hy t ht, hb]; rfl), fun h t ht hb => h t ht (by rw [flip_bit y hy t ht] at hb; simpa using hb)⟩
  by_cases g1 : supp u &&& x = supp u
  · rw [if_pos (e1.2 g1)]
    unfold wS
    by_cases g2 : supp (D m a u) &&& y = supp (D m a u)
    · rw [if_pos (e2.2 g2), if_pos ⟨g1, g2⟩]
    · rw [if_neg fun h => g2 (e2.1 h), if_neg fun h => g2 h.2]
  · rw [if_neg fun h => g1 (e1.1 h), if_neg fun h => g1 h.1]

/-! ### Signs -/
theorem sub_lt : ∀ y, y < 16 → ∀ q, q < 16 → q ^^^ y < 16 := by decide +kernel
def sgn (n : Nat) : Int := if cn n 4 % 2 = 0 then 1 else -1
theorem sign_x : ∀ s, s < 16 → ∀ a, a < 16 → sumI (fun x => if x &&& a = x ∧ s &&& x = s then sgn (a ^^^ x) else 0) 16 = if s = a then 1 else 0 := by decide +kernel
theorem sign_m : ∀ s, s < 16 → ∀ b, b < 16 → sumI (fun y => if y &&& b = y ∧ s &&& (b ^^^ y) = s then sgn y else 0) 16 = if s = b then 1 else 0 := by decide +kernel
def manyF (m : Nat) (a : Nat → UInt8) (x y : Nat) : Int := sT 15 4 (fun u => if supp u = x ∧ supp (D m a u) = y then 1 else 0) fun _ => 0
theorem many_nonneg (m : Nat) (a : Nat → UInt8) (x y : Nat) : 0 ≤ manyF m a x y := sT_nonneg (fun u => by split <;> decide) 4 _
section
variable {m : Nat} (h0 : 256 ≤ m) (h1 : m < 512) (hf : fieldB m = true)
include h0 h1 hf
theorem many_sum (a : Nat → UInt8) {p q : Nat} (hp : p < 16) (hq : q < 16) (cx cy : Nat → Int) (fy : Nat → Nat) (hfy : ∀ y, y < 16 → cy y ≠ 0 → fy y < 16)
    (hcx : ∀ s, s < 16 → sumI (fun x => if s &&& x = s then cx x else 0) 16 = if s = p then 1 else 0)
    (hcy : ∀ s, s < 16 → sumI (fun y => if s &&& fy y = s then cy y else 0) 16 = if s = q then 1 else 0) :
    sumI (fun x => sumI (fun y => cx x * cy y * (256 : Int) ^ freeN m a (15 ^^^ fy y) x) 16) 16 = manyF m a p q := by
  have e : ∀ x, x < 16 → ∀ y, y < 16 → cx x * cy y * (256 : Int) ^ freeN m a (15 ^^^ fy y) x = sT 15 4 (fun u => cx x * cy y * (if supp u &&& x = supp u ∧ supp (D m a u) &&& fy y = supp (D m a u) then 1 else 0)) fun _ => 0 := fun x hx y hy => by
    by_cases hz : cy y = 0
    · rw [hz, Int.mul_zero, Int.zero_mul, show (fun u : Nat → UInt8 => (0 : Int) * (if supp u &&& x = supp u ∧ supp (D m a u) &&& fy y = supp (D m a u) then 1 else 0)) = fun _ => 0 from funext fun u => Int.zero_mul _, sT_zero]
    · rw [count_all h0 h1 hf a hx (hfy y hy hz), sT_mul]
  rw [sumI_cong fun x hx => sumI_cong fun y hy => e x hx y hy, sumI_cong fun x _ => (sT_sum 15 4 (fun y u => cx x * cy y * (if supp u &&& x = supp u ∧ supp (D m a u) &&& fy y = supp (D m a u) then 1 else 0)) (fun _ => 0) 16).symm, ← sT_sum]
  unfold manyF
  congr 1
  funext u
  have e2 : ∀ x, sumI (fun y => cx x * cy y * (if supp u &&& x = supp u ∧ supp (D m a u) &&& fy y = supp (D m a u) then 1 else 0)) 16 = (if supp u &&& x = supp u then cx x else 0) * (if supp (D m a u) = q then 1 else 0) := fun x => by
    rw [← hcy _ (supp_lt _), ← sumI_mul]
    refine sumI_cong fun y _ => ?_
    by_cases g1 : supp u &&& x = supp u
    · by_cases g2 : supp (D m a u) &&& fy y = supp (D m a u)
      · rw [if_pos ⟨g1, g2⟩, if_pos g1, if_pos g2, Int.mul_one]
      · rw [if_neg fun h => g2 h.2, if_neg g2, Int.mul_zero, Int.mul_zero]
    · rw [if_neg fun h => g1 h.1, if_neg g1, Int.mul_zero, Int.zero_mul]
  rw [sumI_cong fun x _ => e2 x]
  rw [sumI_cong (g := fun x => (if supp (D m a u) = q then 1 else 0) * (if supp u &&& x = supp u then cx x else 0)) fun x _ => Int.mul_comm _ _, sumI_mul, hcx _ (supp_lt u)]
  by_cases g1 : supp u = p
  · by_cases g2 : supp (D m a u) = q
    · rw [if_pos g1, if_pos g2, if_pos ⟨g1, g2⟩]; rfl
    · rw [if_neg g2, if_neg (show ¬ (supp u = p ∧ supp (D m a u) = q) from fun h => g2 h.2)]; exact Int.zero_mul _
  · rw [if_neg g1, if_neg (show ¬ (supp u = p ∧ supp (D m a u) = q) from fun h => g1 h.1)]; exact Int.mul_zero _
theorem many_S (a : Nat → UInt8) {p q : Nat} (hp : p < 16) (hq : q < 16) :
    sumI (fun x => sumI (fun y => (if x &&& p = x then sgn (p ^^^ x) else 0) * (if y &&& q = y then sgn (q ^^^ y) else 0) * (256 : Int) ^ freeN m a (15 ^^^ y) x) 16) 16 = manyF m a p q := by
  refine many_sum h0 h1 hf a hp hq (fun x => if x &&& p = x then sgn (p ^^^ x) else 0) (fun y => if y &&& q = y then sgn (q ^^^ y) else 0) (fun y => y) (fun y hy _ => hy) (fun s hs => ?_) fun s hs => ?_
  · rw [← sign_x s hs p hp]
    refine sumI_cong fun x _ => ?_
    by_cases g1 : s &&& x = s <;> by_cases g2 : x &&& p = x <;> simp [g1, g2]
  · rw [← sign_x s hs q hq]
    refine sumI_cong fun x _ => ?_
    by_cases g1 : s &&& x = s <;> by_cases g2 : x &&& q = x <;> simp [g1, g2]
theorem many_I (a : Nat → UInt8) {p q : Nat} (hp : p < 16) (hq : q < 16) :
    sumI (fun x => sumI (fun y => (if x &&& p = x then sgn (p ^^^ x) else 0) * (if y &&& q = y then sgn y else 0) * (256 : Int) ^ freeN m a (15 ^^^ (q ^^^ y)) x) 16) 16 = manyF m a p q := by
  refine many_sum h0 h1 hf a hp hq (fun x => if x &&& p = x then sgn (p ^^^ x) else 0) (fun y => if y &&& q = y then sgn y else 0) (fun y => q ^^^ y) (fun y hy _ => sub_lt y hy q hq) (fun s hs => ?_) fun s hs => ?_
  · rw [← sign_x s hs p hp]
    refine sumI_cong fun x _ => ?_
    by_cases g1 : s &&& x = s <;> by_cases g2 : x &&& p = x <;> simp [g1, g2]
  · rw [← sign_m s hs q hq]
    refine sumI_cong fun x _ => ?_
    by_cases g1 : s &&& (q ^^^ x) = s <;> by_cases g2 : x &&& q = x <;> simp [g1, g2]
end
end Go.Proofs.YtenkjbkcdcionaaGreat
/- Ranks of rows: the reference's second way. -/
namespace Go.Proofs.YtenkjbkcdcionaaGreat
set_option linter.unusedSimpArgs false
set_option linter.unusedVariables false
set_option maxRecDepth 20000
set_option maxHeartbeats 1000000
open Go.Abs

section
variable {m : Nat} (h0 : 256 ≤ m) (h1 : m < 512) (hf : fieldB m = true)
include h0 h1 hf
theorem rkI_zero {L : Nat} (hL : L ≤ 4) (E : Nat → Nat → UInt8) : ∀ j, j ≤ 4 → ∀ c, c < j → ∀ p, (rkI m L E j).r ≤ p → p < L → (rkI m L E j).E ((rkI m L E j).s p) c = 0
  | 0, _ => fun c hc => absurd hc (Nat.not_lt_zero c)
  | j + 1, hj => by
    have ih := rkI_zero hL E j (by omega)
    obtain ⟨hP, hr⟩ := rkI_inv m L E j
    intro c hc p hp1 hp2
    have hst : rkI m L E (j + 1) = gstep m L j (rkI m L E j) := rfl
    rw [hst] at hp1 ⊢
    by_cases e : c = j
    · subst e
      by_cases hp : (rkI m L E c).r + gpC L (rkI m L E c).E (rkI m L E c).s (rkI m L E c).r c = L
      · rw [gstep_no hp] at hp1 ⊢
        have := (gp_go (L := L) (E := (rkI m L E c).E) (s := (rkI m L E c).s) (r := (rkI m L E c).r) (j := c) (i := p - (rkI m L E c).r) (by omega)).2
        rw [show (rkI m L E c).r + (p - (rkI m L E c).r) = p by omega] at this
        simpa using this
      · have hrr : (gstep m L c (rkI m L E c)).r = (rkI m L E c).r + 1 := by rw [gstep_yes hp]
        rw [hrr] at hp1
        exact (pivot_one h0 h1 hf hP hr hL (by omega) hp fun _ => 0).2 p hp1 hp2
    · exact gstep_zero hP hr (fun q h1' h2' => ih c (by omega) q h1' h2') p hp1 hp2
end
theorem pre_keep {j : Nat} {m : Nat} {f : UInt8} {x y : Nat → UInt8} (h : ∀ c, c < j → y c = 0) : pre j (rowN m f x y) x = x := by
  funext c
  unfold pre
  by_cases hc : c < j
  · rw [if_pos hc]
    show x c ^^^ tm m f (y c) = x c
    rw [h c hc, tm_zeroR, UInt8.xor_zero]
  · rw [if_neg hc]
theorem rankL_ac {m : Nat} (h0 : 256 ≤ m) (h1 : m < 512) (hf : fieldB m = true) {L nc : Nat} (hL : L ≤ 4) (hnc : nc ≤ 4) (E1 : Nat → Nat → UInt8) (h : List Blk) (A : Blk) :
    AC Tryz.prog 123 [.int .i64 m, sl (h.length + (L + 1)) 0 L 1] (rowsH h (Rw nc E1) L ++ [A, ⟨Vs L (spF h.length nc fun j => j), true⟩]) (.int .i64 (((rkI m L E1 (if L = 0 then 0 else nc)).r : Nat) : Int))
      (rowsH h (Rw nc (rkI m L E1 (if L = 0 then 0 else nc)).E) L ++ [A, ⟨Vs L (spF h.length nc (rkI m L E1 (if L = 0 then 0 else nc)).s), true⟩]) := by
  have hll := fun E => rowsH_len h (Rw nc E) L
  have hlen : ∀ E s, h.length + L + 2 ≤ (rowsH h (Rw nc E) L ++ [A, ⟨Vs L (spF h.length nc s), true⟩]).length := fun E s => by rw [List.length_append, rowsH_len]; simp
  rcases Nat.eq_zero_or_pos L with rfl | hL0
  · rw [if_pos rfl, show rkI m 0 E1 0 = ⟨E1, fun j => j, 0⟩ from rfl]
    (refine AC_begin (fun _ _ => Tryz.call123 _ _) Tryz.func123 rfl Tryz.ntmps123 Tryz.results123 (fun hwf => ?_); simp only [LCN, Nat.reduceAdd, Nat.reduceSub, List.replicate])
    (refine sN (And.intro (@yieldA_at 3 17) (@yieldA_at 4 32)) ?_)
    refine WA_forH (fun k => [(5, .int .i64 0), (6, .int .i64 k), (7, J), (8, J), (9, J), (10, J), (11, J), (12, J), (13, J), (14, J), (15, J), (16, J), (17, J), (18, J), (19, J), (20, J), (21, J), (22, J), (23, J), (24, J), (25, J), (26, J), (27, J), (28, J), (29, J), (30, J), (31, J), (32, J), (33, J), (34, J), (35, J), (36, J), (37, J), (38, J), (39, J), (40, J), (41, J), (42, J), (43, J), (44, J), (45, J), (46, J), (47, J), (48, J), (49, J), (50, J), (51, J), (52, J), (53, J), (54, J), (55, J), (56, J), (57, J), (58, J), (59, J), (60, J), (61, J), (62, J), (63, J), (64, J), (65, J), (66, J), (67, J), (68, J), (69, J), (70, J), (71, J), (72, J), (73, J), (74, J), (75, J), (76, J), (77, J), (78, J), (79, J), (80, J), (81, J), (82, J), (83, J), (84, J), (85, J), (86, J), (87, J), (88, J), (89, J), (90, J), (91, J), (92, J), (93, J), (94, J), (95, J), (96, J), (97, J), (98, J), (99, J), (100, J), (101, J), (102, J), (103, J), (104, J), (105, J), (106, J), (107, J), (108, J), (109, J), (110, J), (111, J), (112, J), (113, J), (114, J)]) (fun k => rowsH h (Rw nc E1) 0 ++ [A, ⟨Vs 0 (spF h.length nc fun j => j), true⟩]) (0) ?_ ?_ ?_ <;> (try simp only [PTS])
    · (exact sS0)
    · intro k hk
      omega
    · (refine sN (And.intro (show decide ((0 : Nat) < 0) = false from rfl) (And.intro (show decide ((0 : Int) < 0) = false from rfl) (And.intro (@yieldA_at 3 17) (@yieldA_at 4 32)))) ?_)
      (exact sR0)
  · rw [if_neg (by omega)]
    have hLp : decide (0 < L) = true := decide_eq_true hL0
    (refine AC_begin (fun _ _ => Tryz.call123 _ _) Tryz.func123 rfl Tryz.ntmps123 Tryz.results123 (fun hwf => ?_); simp only [LCN, Nat.reduceAdd, Nat.reduceSub, List.replicate])
    (refine sN (And.intro (@yieldA_at 3 17) (@yieldA_at 4 32)) ?_)
    refine WA_forH (fun k => [(1, sl (h.length + (L + 1)) 0 L 1), (5, .int .i64 (((rkI m L E1 k).r : Nat) : Int)), (6, .int .i64 k), (7, J), (8, J), (9, J), (10, J), (11, J), (12, J), (13, J), (14, J), (15, J), (16, J), (17, J), (18, J), (19, J), (20, J), (21, J), (22, J), (23, J), (24, J), (25, J), (26, J), (27, J), (28, J), (29, J), (30, J), (31, J), (32, J), (33, J), (34, J), (35, J), (36, J), (37, J), (38, J), (39, J), (40, J), (41, J), (42, J), (43, J), (44, J), (45, J), (46, J), (47, J), (48, J), (49, J), (50, J), (51, J), (52, J), (53, J), (54, J), (55, J), (56, J), (57, J), (58, J), (59, J), (60, J), (61, J), (62, J), (63, J), (64, J), (65, J), (66, J), (67, J), (68, J), (69, J), (70, J), (71, J), (72, J), (73, J), (74, J), (75, J), (76, J), (77, J), (78, J), (79, J), (80, J), (81, J), (82, J), (83, J), (84, J), (85, J), (86, J), (87, J), (88, J), (89, J), (90, J), (91, J), (92, J), (93, J), (94, J), (95, J), (96, J), (97, J), (98, J), (99, J), (100, J), (101, J), (102, J), (103, J), (104, J), (105, J), (106, J), (107, J), (108, J), (109, J), (110, J), (111, J), (112, J), (113, J), (114, J)]) (fun k => rowsH h (Rw nc (rkI m L E1 k).E) L ++ [A, ⟨Vs L (spF h.length nc (rkI m L E1 k).s), true⟩]) (nc) ?_ ?_ ?_ <;> (try simp only [PTS])
    · rw [show rkI m L E1 0 = ⟨E1, fun j => j, 0⟩ from rfl]
      (refine Drop_slots (by first | exact Nat.le_refl _ | (simp only [List.length_append, rowsH_len, List.length_cons, List.length_nil]; omega) | (simp only [List.length_append, rowsH_len, List.length_cons, List.length_nil, Nat.le_refl]; done)) ?_; focus ((try simp only [JL_same, JL_J, JL_nil, Int.reduceAdd, Nat.sub_sub, ICS, Bool.false_eq_true, if_false, if_true]); (try exact JL_refl _)))
    · intro j hj
      obtain ⟨hP, hr⟩ := rkI_inv m L E1 j
      have hzz := rkI_zero h0 h1 hf hL E1 j (by omega)
      have hst : rkI m L E1 (j + 1) = gstep m L j (rkI m L E1 j) := rfl
      rw [hst]
      clear hst
      generalize rkI m L E1 j = S at *
      obtain ⟨E, s, r⟩ := S
      simp only [] at hP hr hzz ⊢
      have hgl := gp_le (E := E) (s := s) (j := j) hr
      have hs0 := hP.lt 0 hL0
      (refine sN (And.intro @hLp (And.intro @look_tail1 (And.intro @spF_at (And.intro @row_look (And.intro (@yieldA_at 3 17) (@yieldA_at 4 32)))))) ?_)
      refine WA_forP (fun k => [(7, .int .i64 ((r + k : Nat) : Int)), (28, J), (29, J), (30, J), (31, J), (32, J), (33, J), (34, J), (35, J), (36, J), (37, J), (38, J), (39, J), (40, J), (41, J), (42, J), (43, J)]) (fun k => []) (gpC L E s r j) ?_ ?_ ?_ <;> (try simp only [PTS])
      · (refine Drop_slots (by first | exact Nat.le_refl _ | (simp only [List.length_append, rowsH_len, List.length_cons, List.length_nil]; omega) | (simp only [List.length_append, rowsH_len, List.length_cons, List.length_nil, Nat.le_refl]; done)) ?_; focus ((try simp only [JL_same, JL_J, JL_nil, Int.reduceAdd, Nat.sub_sub, ICS, Bool.false_eq_true, if_false, if_true]); (try exact JL_refl _)))
      · intro i hi
        obtain ⟨g1, g2⟩ := gp_go hi
        have hs := hP.lt (r + i) g1
        (refine sN (And.intro (decide_eq_true g1) (And.intro @look_tail1 (And.intro @spF_at (And.intro @row_look (And.intro @g2 (And.intro (@yieldA_at 3 17) (@yieldA_at 4 32))))))) ?_)
        (refine Drop_slots (by first | exact Nat.le_refl _ | (simp only [List.length_append, rowsH_len, List.length_cons, List.length_nil]; omega) | (simp only [List.length_append, rowsH_len, List.length_cons, List.length_nil, Nat.le_refl]; done)) ?_; focus ((try simp only [JL_same, JL_J, JL_nil, Int.reduceAdd, Nat.sub_sub, ICS, Bool.false_eq_true, if_false, if_true, Nat.add_assoc]); (try exact JL_refl _)))
      · by_cases hpv : r + gpC L E s r j = L
        · have hg := gstep_no (m := m) (L := L) (j := j) (S := ⟨E, s, r⟩) hpv
          rw [hg]
          (refine sN (And.intro @hpv (And.intro (show decide (L < L) = false from decide_eq_false (Nat.lt_irrefl _)) (And.intro (show decide (L ≤ L) = true from decide_eq_true (Nat.le_refl _)) (And.intro (@yieldA_at 3 17) (@yieldA_at 4 32))))) ?_)
          (refine Drop_slots (by first | exact Nat.le_refl _ | (simp only [List.length_append, rowsH_len, List.length_cons, List.length_nil]; omega) | (simp only [List.length_append, rowsH_len, List.length_cons, List.length_nil, Nat.le_refl]; done)) ?_; focus ((try simp only [JL_same, JL_J, JL_nil, Int.reduceAdd, Nat.sub_sub, ICS, Bool.false_eq_true, if_false, if_true]); (try exact JL_refl _)))
        · have hg := gstep_yes (m := m) (L := L) (j := j) (S := ⟨E, s, r⟩) hpv
          simp only [] at hg
          have hge := gp_end (E := E) (s := s) (j := j) hr hL hpv
          rw [hg]
          simp only []
          clear hg
          have hpl : r + gpC L E s r j < L := by omega
          have hrp : r ≤ r + gpC L E s r j := Nat.le_add_right _ _
          generalize r + gpC L E s r j = p at *
          have hs := hP.lt p hpl
          have hr4 : r < L := by omega
          have hsr4 := hP.lt r hr4
          have hPs := Pm_sw hP hpl hr4
          have hzp : ∀ c, c < j → E (s p) c = 0 := fun c hc => hzz c hc p hrp hpl
          (refine sW (And.intro (decide_eq_true hpl) (And.intro (show decide (L ≤ p) = false from decide_eq_false (by omega)) (And.intro @look_tail1 (And.intro @set_tail1 (And.intro @spF_at (And.intro @row_look (And.intro @hge (And.intro @spF_sw (And.intro @swS_at (And.intro (@yieldA_at 3 17) (@yieldA_at 4 32))))))))))) (invS_ac h0 h1) ?_)
          have hsr : s p = swS s p r r := (swS_at s p r).symm
          rw [hsr] at hzp
          generalize inv m (E (s p) j) = v
          generalize swS s p r = q at *
          refine WA_forH (fun k => [(10, .int .i64 ((r + 1 + k : Nat) : Int)), (11, J), (12, J), (13, J), (71, J), (72, J), (73, J), (74, J), (75, J), (76, J), (77, J), (78, J), (79, J), (80, J), (81, J), (82, J), (83, J), (84, J), (85, J), (86, J), (87, J), (88, J), (89, J), (90, J), (91, J), (92, J), (93, J), (94, J), (95, J), (96, J), (97, J), (98, J), (99, J), (100, J), (101, J), (102, J), (103, J), (104, J), (105, J), (106, J), (107, J), (108, J), (109, J), (110, J), (111, J), (112, J)]) (fun k => rowsH h (Rw nc (elE m q r j v E k)) L ++ [A, ⟨Vs L (spF h.length nc q), true⟩]) (L - (r + 1)) ?_ ?_ ?_ <;> (try simp only [PTS])
          · (refine Drop_slots (by first | exact Nat.le_refl _ | (simp only [List.length_append, rowsH_len, List.length_cons, List.length_nil]; omega) | (simp only [List.length_append, rowsH_len, List.length_cons, List.length_nil, Nat.le_refl]; done)) ?_; focus ((try simp only [JL_same, JL_J, JL_nil, Int.reduceAdd, Nat.sub_sub, ICS, Bool.false_eq_true, if_false, if_true]); (try exact JL_refl _)))
          · intro t ht
            have hn : r + 1 + t < L := by omega
            have hq := hPs.lt _ hn
            have hqr := hPs.lt r hr4
            have hne : q r ≠ q (r + 1 + t) := fun e => absurd (hPs.inj r _ hr4 hn e) (by omega)
            have hel : elE m q r j v E (t + 1) = upd (elE m q r j v E t) (q (r + 1 + t)) (rowN m (tm m (elE m q r j v E t (q (r + 1 + t)) j) v) (elE m q r j v E t (q (r + 1 + t))) (elE m q r j v E t (q r))) := rfl
            have hkr := (elE_at (m := m) (j := j) (v := v) (E := E) hPs hr4 t (by omega)).1
            rw [← hkr] at hzp
            rw [hel]
            clear hel hkr
            generalize elE m q r j v E t = F at hzp ⊢
            generalize hqq : q (r + 1 + t) = z at *
            (repeat (first | ((first | (refine And.intro ?_ ?_; focus exact PLA) | ((first | with_reducible apply callB_i | with_reducible apply callK_intro | with_reducible apply callQ_i); (focus (first | assumption | (with_reducible apply tmS_ac h0 h1 <;> (first | assumption | rfl | (simp (disch := omega) only [go_sem]; first | done | rfl) | omega | decide | (simp; done))))); (try exact WP_au)) | refine WA_seq (WA_region ?_) | refine WA_region ?_ | refine WA_exit ?_); try simp (maxSteps := 1000000) (disch := first | omega | rfl | decide | (simp only [LX] <;> omega)) only [go_sem, Nat.reduceAdd, Int.reduceAdd, Int.reduceSub, Int.reduceMul, BNS, decide_eq_true hn, look_tail1, spF_at, row_look, hqq, yieldA_at 3 17, yieldA_at 4 32]) | (refine WA_seq (WA_draw (id := 16) mixedOk (by kernel_rfl) ?_); simp (maxSteps := 1000000) (disch := first | omega | rfl | decide | (simp only [LX] <;> omega)) only [go_sem, Nat.reduceAdd, Int.reduceAdd, Int.reduceSub, Int.reduceMul, BNS, decide_eq_true hn, look_tail1, spF_at, row_look, hqq, yieldA_at 3 17, yieldA_at 4 32]) | (refine WA_draw (id := 16) mixedOk (by kernel_rfl) ?_; simp (maxSteps := 1000000) (disch := first | omega | rfl | decide | (simp only [LX] <;> omega)) only [go_sem, Nat.reduceAdd, Int.reduceAdd, Int.reduceSub, Int.reduceMul, BNS, decide_eq_true hn, look_tail1, spF_at, row_look, hqq, yieldA_at 3 17, yieldA_at 4 32]) | refine WA_seq ?_ | refine WA_block ?_ | (refine WA_skip ?_; try simp only [go_sem]) | (refine WA_ret ?_; try simp only [go_sem]) | refine WA_ct rfl ?_ | refine WA_cf rfl ?_))
            generalize tm m (F z j) v = f
            refine WA_forH (fun k => [(13, .int .i64 ((j + k : Nat) : Int)), (92, J), (93, J), (94, J), (95, J), (96, J), (97, J), (98, J), (99, J), (100, J), (101, J), (102, J), (103, J), (104, J), (105, J), (106, J), (107, J), (108, J), (109, J), (110, J), (111, J), (112, J)]) (fun k => rowsH h (Rw nc (upd F z (pre (j + k) (rowN m f (F z) (F (q r))) (F z)))) L ++ [A, ⟨Vs L (spF h.length nc q), true⟩]) (nc - j) ?_ ?_ ?_ <;> (try simp only [PTS])
            · rw [show j + 0 = j from rfl, pre_keep hzp, upd_id]
              (refine Drop_slots (by first | exact Nat.le_refl _ | (simp only [List.length_append, rowsH_len, List.length_cons, List.length_nil]; omega) | (simp only [List.length_append, rowsH_len, List.length_cons, List.length_nil, Nat.le_refl]; done)) ?_; focus ((try simp only [JL_same, JL_J, JL_nil, Int.reduceAdd, Nat.sub_sub, ICS, Bool.false_eq_true, if_false, if_true]); (try exact JL_refl _)))
            · intro c hc
              have hcn : j + c < nc := by omega
              have e1 : upd F z (pre (j + c) (rowN m f (F z) (F (q r))) (F z)) z (j + c) = F z (j + c) := by unfold upd; rw [if_pos rfl]; exact pre_self (j + c) _ _
              have e2 : upd F z (pre (j + c) (rowN m f (F z) (F (q r))) (F z)) (q r) (j + c) = F (q r) (j + c) := by unfold upd; rw [if_neg hne]
              have e2' : upd F z (pre (j + c) (rowN m f (F z) (F (q r))) (F z)) (s p) (j + c) = F (q r) (j + c) := by rw [hsr]; exact e2
              have e3 : upd (upd F z (pre (j + c) (rowN m f (F z) (F (q r))) (F z))) z (upd (upd F z (pre (j + c) (rowN m f (F z) (F (q r))) (F z)) z) (j + c) (F z (j + c) ^^^ tm m f (F (q r) (j + c)))) = upd F z (pre (j + (c + 1)) (rowN m f (F z) (F (q r))) (F z)) := upd2_pre (E := F) (q := z) (k := j + c) (g := rowN m f (F z) (F (q r))) (x := F z)
              (repeat (first | ((first | (refine And.intro ?_ ?_; focus exact PLA) | ((first | with_reducible apply callB_i | with_reducible apply callK_intro | with_reducible apply callQ_i); (focus (first | assumption | (with_reducible apply tmS_ac h0 h1 <;> (first | assumption | rfl | (simp (disch := omega) only [go_sem]; first | done | rfl) | omega | decide | (simp; done))))); (try exact WP_au)) | refine WA_seq (WA_region ?_) | refine WA_region ?_ | refine WA_exit ?_); try simp (maxSteps := 1000000) (disch := first | omega | rfl | decide | (simp only [LX] <;> omega)) only [go_sem, Nat.reduceAdd, Int.reduceAdd, Int.reduceSub, Int.reduceMul, BNS, decide_eq_true hcn, look_tail1, spF_at, row_look, rows_set, Rw_upd, hqq, e1, e2, e2', e3, yieldA_at 3 17, yieldA_at 4 32]) | (refine (WA_rb (id := 20) [15] (SubM.refl _) mixedOk ?_); simp only [LSZ]; (repeat (first | ((first | (refine And.intro ?_ ?_; focus exact PLA) | ((first | with_reducible apply callB_i | with_reducible apply callK_intro | with_reducible apply callQ_i); (focus (first | assumption | (with_reducible apply tmS_ac h0 h1 <;> (first | assumption | rfl | (simp (disch := omega) only [go_sem]; first | done | rfl) | omega | decide | (simp; done))))); (try exact WP_au)) | refine RTk false [0, 1, 2, 3, 4, 6, 7, 8, 9, 10] 6 ?_ | refine RTk true [5, 11, 12] 3 ?_ | refine RTk false [13, 14] 1 ?_ | refine REx 15 ?_ | refine RB_done (by decide +kernel) ?_); try simp (maxSteps := 1000000) (disch := first | omega | rfl | decide | (simp only [LX] <;> omega)) only [go_sem, Nat.reduceAdd, Int.reduceAdd, Int.reduceSub, Int.reduceMul, BNS, decide_eq_true hcn, look_tail1, spF_at, row_look, rows_set, Rw_upd, hqq, e1, e2, e2', e3, yieldA_at 3 17, yieldA_at 4 32])))) | refine WA_seq ?_ | refine WA_block ?_ | (refine WA_skip ?_; try simp only [go_sem]) | (refine WA_ret ?_; try simp only [go_sem]) | refine WA_ct rfl ?_ | refine WA_cf rfl ?_))
              all_goals (refine Drop_slots (by first | exact Nat.le_refl _ | (simp only [List.length_append, rowsH_len, List.length_cons, List.length_nil]; omega) | (simp only [List.length_append, rowsH_len, List.length_cons, List.length_nil, Nat.le_refl]; done)) ?_; focus ((try simp only [JL_same, JL_J, JL_nil, Int.reduceAdd, Nat.sub_sub, ICS, Bool.false_eq_true, if_false, if_true, Nat.add_assoc]); (try exact JL_refl _)))
            · rw [show j + (nc - j) = nc by omega, Rw_pre]
              (refine sN (And.intro (show decide (nc < nc) = false from decide_eq_false (Nat.lt_irrefl _)) (And.intro (@yieldA_at 3 17) (@yieldA_at 4 32))) ?_)
              (refine Drop_slots (by first | exact Nat.le_refl _ | (simp only [List.length_append, rowsH_len, List.length_cons, List.length_nil]; omega) | (simp only [List.length_append, rowsH_len, List.length_cons, List.length_nil, Nat.le_refl]; done)) ?_; focus ((try simp only [JL_same, JL_J, JL_nil, Int.reduceAdd, Nat.sub_sub, ICS, Bool.false_eq_true, if_false, if_true, Nat.add_assoc]); (try exact JL_refl _)))
          · have hne : decide (r + 1 + (L - (r + 1)) < L) = false := decide_eq_false (by omega)
            (refine sN (And.intro @hne (And.intro (@yieldA_at 3 17) (@yieldA_at 4 32))) ?_)
            (refine Drop_slots (by first | exact Nat.le_refl _ | (simp only [List.length_append, rowsH_len, List.length_cons, List.length_nil]; omega) | (simp only [List.length_append, rowsH_len, List.length_cons, List.length_nil, Nat.le_refl]; done)) ?_; focus ((try simp only [JL_same, JL_J, JL_nil, Int.reduceAdd, Nat.sub_sub, ICS, Bool.false_eq_true, if_false, if_true]); (try exact JL_refl _)))
    · (refine sN (And.intro @hLp (And.intro @look_tail1 (And.intro @spF_at (And.intro @row_look (And.intro (@yieldA_at 3 17) (@yieldA_at 4 32)))))) ?_)
      (exact sR0)

end Go.Proofs.YtenkjbkcdcionaaGreat
/- Inverses of permutations undo them; compositions are permutations. -/
namespace Go.Proofs.YtenkjbkcdcionaaGreat
set_option linter.unusedSimpArgs false
set_option linter.unusedVariables false
set_option maxRecDepth 20000
set_option maxHeartbeats 1000000
open Go.Abs

theorem invP_at {f : Nat → UInt8} {n : Nat} (hn : n ≤ 256) (hi : ∀ i j, i < n → j < n → f i = f j → i = j) : ∀ k, k ≤ n → ∀ j, j < k → invP f k (f j).toNat = UInt8.ofNat j
  | 0, _, j, hj => absurd hj (Nat.not_lt_zero j)
  | k + 1, hk, j, hj => by
    show upd (invP f k) (f k).toNat (UInt8.ofNat k) (f j).toNat = UInt8.ofNat j
    unfold upd
    by_cases e : j = k
    · subst e; rw [if_pos rfl]
    · rw [if_neg fun h => e (hi j k (by omega) (by omega) (UInt8.toNat_inj.1 h))]
      exact invP_at hn hi k (by omega) j (by omega)
theorem plOk_inj {p : Nat → UInt8} (h : plOk p = true) : ∀ i j, i < 16 → j < 16 → p i = p j → i = j := by
  unfold plOk at h
  rw [Bool.and_eq_true] at h
  exact (twice_iff p 16).1 (by simpa using h.2)
theorem plOk_surj {p : Nat → UInt8} (h : plOk p = true) {y : Nat} (hy : y < 16) : ∃ i, i < 16 ∧ (p i).toNat = y :=
  inj_surj 16 (fun i => (p i).toNat) (fun i hi => plOk_lt h hi) (fun i j hi hj e => plOk_inj h i j hi hj (UInt8.toNat_inj.1 e)) y hy
theorem invP_pl {p : Nat → UInt8} (h : plOk p = true) {j : Nat} (hj : j < 16) : invP p 16 (p j).toNat = UInt8.ofNat j :=
  invP_at (by omega) (plOk_inj h) 16 (Nat.le_refl _) j hj
theorem pl_invP {p : Nat → UInt8} (h : plOk p = true) {i : Nat} (hi : i < 16) : (p (invP p 16 i).toNat).toNat = i := by
  obtain ⟨j, hj, rfl⟩ := plOk_surj h hi
  rw [invP_pl h hj, u8_ofNat_toNat (by omega)]
theorem boxOk_inj {f : Nat → UInt8} (h : boxOk f = true) : ∀ i j, i < 256 → j < 256 → f i = f j → i = j := by
  unfold boxOk at h
  exact (twice_iff f 256).1 (by simpa using h)
end Go.Proofs.YtenkjbkcdcionaaGreat
/- Patterns: lists of those that one becomes. Plain. -/
namespace Go.Proofs.YtenkjbkcdcionaaGreat
set_option linter.unusedSimpArgs false
set_option linter.unusedVariables false
set_option maxRecDepth 20000
set_option maxHeartbeats 1000000
open Go.Abs

theorem sumI_ge {f : Nat → Int} {k : Nat} : ∀ {n : Nat}, k < n → (∀ i, i < n → 0 ≤ f i) → f k ≤ sumI f n
  | 0, h, _ => absurd h (Nat.not_lt_zero k)
  | n + 1, h, hf => by
    unfold sumI
    by_cases e : k = n
    · subst e
      have := sumI_nonneg (f := f) (n := k) fun i hi => hf i (by omega)
      omega
    · have h1 := sumI_ge (f := f) (k := k) (n := n) (by omega) fun i hi => hf i (by omega)
      have h2 := hf n (by omega)
      omega
theorem sumB_ge {f : UInt8 → Int} (b : UInt8) (hf : ∀ c, 0 ≤ f c) : f b ≤ sumB f := by
  unfold sumB
  have := sumI_ge (f := fun i => f (UInt8.ofNat i)) (k := b.toNat) (n := 256) (u8_lt b) fun i _ => hf _
  simpa using this
theorem sT_ge {W : (Nat → UInt8) → Int} (hW : ∀ u, 0 ≤ W u) (hc : ∀ u w, (∀ t, t < 4 → u t = w t) → W u = W w) (u0 : Nat → UInt8) : ∀ k v, k ≤ 4 → (∀ t, t < 4 - k → v t = u0 t) → W u0 ≤ sT 15 k W v
  | 0, v, _, hv => by
    show W u0 ≤ W v
    rw [hc v u0 fun t ht => hv t (by omega)]
    exact Int.le_refl _
  | k + 1, v, hk, hv => by
    have h15 : (15 : Nat).testBit (3 - k) = true := by
      have : 3 - k = 0 ∨ 3 - k = 1 ∨ 3 - k = 2 ∨ 3 - k = 3 := by omega
      rcases this with e | e | e | e <;> rw [e] <;> rfl
    rw [sT_t h15]
    refine Int.le_trans (sT_ge hW hc u0 k (upd v (3 - k) (u0 (3 - k))) (by omega) fun t ht => ?_) (sumB_ge (f := fun b => sT 15 k W (upd v (3 - k) b)) (u0 (3 - k)) fun b => sT_nonneg hW k _)
    unfold upd
    split
    · rename_i e; rw [e]
    · exact hv t (by omega)
theorem supp_cong {u w : Nat → UInt8} (h : ∀ t, t < 4 → u t = w t) : supp u = supp w := by
  unfold supp; rw [h 0 (by omega), h 1 (by omega), h 2 (by omega), h 3 (by omega)]
theorem many_pos (m : Nat) (a u : Nat → UInt8) : 0 < manyF m a (supp u) (supp (D m a u)) := by
  have h := sT_ge (W := fun v => if supp v = supp u ∧ supp (D m a v) = supp (D m a u) then 1 else 0) (fun v => by split <;> decide) (fun v w hvw => by
    rw [supp_cong hvw, supp_cong (u := D m a v) (w := D m a w) fun t _ => D_cong hvw]) u 4 (fun _ => 0) (Nat.le_refl _) fun t ht => by omega
  rw [if_pos ⟨rfl, rfl⟩] at h
  exact h
def colP (p : Nat) : Nat → UInt8 := fun t => if p.testBit t = true then 1 else 0
theorem col_supp : ∀ p, p < 16 → supp (colP p) = p := by decide +kernel
theorem many_ex (m : Nat) (a : Nat → UInt8) {p : Nat} (hp : p < 16) : ∃ q, q < 16 ∧ 0 < manyF m a p q := by
  have := many_pos m a (colP p)
  rw [col_supp p hp] at this
  exact ⟨_, supp_lt _, this⟩
def patL (m : Nat) (a : Nat → UInt8) (p : Nat) : Nat → List Int
  | 0 => []
  | k + 1 => if 0 < manyF m a p k then patL m a p k ++ [(k : Int)] else patL m a p k
theorem patL_t {m : Nat} {a : Nat → UInt8} {p k : Nat} (h : 0 < manyF m a p k) : patL m a p (k + 1) = patL m a p k ++ [(k : Int)] := by rw [patL, if_pos h]
theorem patL_f {m : Nat} {a : Nat → UInt8} {p k : Nat} (h : ¬ 0 < manyF m a p k) : patL m a p (k + 1) = patL m a p k := by rw [patL, if_neg h]
theorem patL_le (m : Nat) (a : Nat → UInt8) (p : Nat) : ∀ k, (patL m a p k).length ≤ k
  | 0 => Nat.le_refl 0
  | k + 1 => by
    have := patL_le m a p k
    rw [patL]; split
    · rw [List.length_append]; simp; omega
    · omega
theorem patL_pos (m : Nat) (a : Nat → UInt8) {p q : Nat} (hq : 0 < manyF m a p q) : ∀ k, q < k → 0 < (patL m a p k).length
  | 0, h => absurd h (Nat.not_lt_zero q)
  | k + 1, h => by
    rw [patL]
    by_cases e : q = k
    · subst e; rw [if_pos hq, List.length_append]; simp
    · have := patL_pos m a hq k (by omega)
      split
      · rw [List.length_append]; omega
      · exact this
def patR (m : Nat) (a : Nat → UInt8) (p : Nat) : List Int := patL m a p 16
theorem patR_pos (m : Nat) (a : Nat → UInt8) {p : Nat} (hp : p < 16) : 0 < (patR m a p).length := by
  obtain ⟨q, hq, h⟩ := many_ex m a hp
  exact patL_pos m a h 16 hq
end Go.Proofs.YtenkjbkcdcionaaGreat
/- Least activity: costs of sets, capped. Plain. -/
namespace Go.Proofs.YtenkjbkcdcionaaGreat
set_option linter.unusedSimpArgs false
set_option linter.unusedVariables false
set_option maxRecDepth 20000
set_option maxHeartbeats 1000000
open Go.Abs

def wrR (ix : Nat → Nat) (v f : Nat → Int) : Nat → Nat → Int
  | 0 => f
  | k + 1 => upd (wrR ix v f k) (ix k) (v k)
theorem wrR_rel {R : Int → Int → Prop} {ix : Nat → Nat} {v v' f f' : Nat → Int} {t : Nat} : ∀ {n : Nat}, (∀ s, s < n → R (v s) (v' s)) → (R (f t) (f' t) ∨ ∃ s, s < n ∧ ix s = t) → R (wrR ix v f n t) (wrR ix v' f' n t)
  | 0, _, h => by
    rcases h with h | ⟨s, hs, _⟩
    · exact h
    · exact absurd hs (Nat.not_lt_zero s)
  | n + 1, hv, h => by
    show R (upd _ _ _ t) (upd _ _ _ t)
    unfold upd
    by_cases e : t = ix n
    · rw [if_pos e, if_pos e]; exact hv n (by omega)
    · rw [if_neg e, if_neg e]
      refine wrR_rel (n := n) (fun s hs => hv s (by omega)) ?_
      rcases h with h | ⟨s, hs, hx⟩
      · exact .inl h
      · refine .inr ⟨s, ?_, hx⟩
        by_cases e2 : s = n
        · subst e2; exact absurd hx.symm e
        · omega
def mvM (pl : Nat → UInt8) (s : Nat) : Nat → Nat
  | 0 => 0
  | i + 1 => mvM pl s i ||| ((s >>> (pl i).toNat &&& 1) <<< i)
theorem mvM_bit (pl : Nat → UInt8) (s : Nat) : ∀ n i, (mvM pl s n).testBit i = (decide (i < n) && s.testBit (pl i).toNat)
  | 0, i => by simp [mvM]
  | n + 1, i => by
    rw [mvM, Nat.testBit_or, mvM_bit pl s n i, Nat.testBit_shiftLeft, Nat.testBit_and, Nat.testBit_shiftRight]
    rcases Nat.lt_trichotomy i n with h | h | h
    · rw [decide_eq_true h, decide_eq_true (show i < n + 1 by omega), decide_eq_false (show ¬ i ≥ n by omega), Bool.false_and, Bool.or_false]
    · subst h
      rw [decide_eq_false (Nat.lt_irrefl i), decide_eq_true (show i < i + 1 by omega), decide_eq_true (show i ≥ i by omega), Nat.sub_self, Nat.add_zero, show (1 : Nat).testBit 0 = true from rfl]
      simp
    · rw [decide_eq_false (show ¬ i < n by omega), decide_eq_false (show ¬ i < n + 1 by omega), Nat.testBit_lt_two_pow (x := 1) (i := i - n) (Nat.one_lt_two_pow (by omega))]
      simp
theorem mvM_lt (pl : Nat → UInt8) (s n : Nat) : mvM pl s n < 2 ^ n := Nat.lt_pow_two_of_testBit _ fun i hi => by rw [mvM_bit, decide_eq_false (by omega), Bool.false_and]
theorem mvM_onto {pl : Nat → UInt8} (hp : plOk pl = true) {t : Nat} (ht : t < 65536) : ∃ s, s < 65536 ∧ mvM pl s 16 = t :=
  ⟨mvM (invP pl 16) t 16, mvM_lt _ _ 16, by
    refine Nat.eq_of_testBit_eq fun i => ?_
    rw [mvM_bit]
    by_cases hi : i < 16
    · rw [decide_eq_true hi, Bool.true_and, mvM_bit, decide_eq_true (plOk_lt hp hi), Bool.true_and, invP_pl hp hi, u8_ofNat_toNat (by omega)]
    · rw [decide_eq_false hi, Bool.false_and, Nat.testBit_lt_two_pow (Nat.lt_of_lt_of_le ht (show 2 ^ 16 ≤ 2 ^ i from Nat.pow_le_pow_right (by omega) (by omega)))]⟩
def Cap (B U x y : Int) : Prop := 0 ≤ x ∧ x ≤ U ∧ y = (if x < 1000 then x else 1000) ∧ (x ≤ B ∨ 1000 ≤ x)
theorem Cap_min {B U x y x' y' : Int} (h : Cap B U x y) (h' : Cap B U x' y') : Cap B U (min x x') (min y y') := by
  unfold Cap at *
  obtain ⟨a1, a2, a3, a4⟩ := h
  obtain ⟨b1, b2, b3, b4⟩ := h'
  split at a3 <;> split at b3 <;> (refine ⟨by omega, by omega, ?_, by omega⟩; split <;> omega)
theorem Cap_add {B U x y b : Int} (h : Cap B U x y) (h0 : 0 ≤ b) (h1 : b ≤ 16) (hB : B + 16 < 1000) : Cap (B + 16) (U + 16) (x + b) (if y < 1000 then y + b else y) := by
  unfold Cap at *
  obtain ⟨a1, a2, a3, a4⟩ := h
  refine ⟨by omega, by omega, ?_, by omega⟩
  split at a3 <;> split <;> split <;> omega
def inn (tg : Nat → Nat) (x : Int) (f : Nat → Int) : Nat → Nat → Int
  | 0 => f
  | k + 1 => upd (inn tg x f k) (tg k) (min (inn tg x f k (tg k)) x)
theorem inn_rel {B U x x' : Int} {tg : Nat → Nat} {f f' : Nat → Int} (hx : Cap B U x x') (hf : ∀ t, Cap B U (f t) (f' t)) : ∀ k t, Cap B U (inn tg x f k t) (inn tg x' f' k t)
  | 0, t => hf t
  | k + 1, t => by
    have ih := inn_rel (tg := tg) hx hf k
    show Cap B U (upd _ _ _ t) (upd _ _ _ t)
    unfold upd
    by_cases e : t = tg k
    · rw [if_pos e, if_pos e]; exact Cap_min (ih _) hx
    · rw [if_neg e, if_neg e]; exact ih t
theorem inn_skip {tg : Nat → Nat} {f : Nat → Int} (hf : ∀ t, f t ≤ 1000) : ∀ k, inn tg 1000 f k = f
  | 0 => rfl
  | k + 1 => by
    funext t
    show upd _ _ _ t = _
    rw [inn_skip hf k]
    unfold upd
    split
    · rename_i e; rw [← e]; have := hf t; omega
    · rfl
def cols (tg : Nat → Nat → Nat) (len : Nat → Nat) (v f : Nat → Int) : Nat → Nat → Int
  | 0 => f
  | s + 1 => inn (tg s) (v s) (cols tg len v f s) (len s)
theorem cols_rel {B U : Int} {tg : Nat → Nat → Nat} {len : Nat → Nat} {v v' f f' : Nat → Int} (hf : ∀ t, Cap B U (f t) (f' t)) : ∀ n, (∀ s, s < n → Cap B U (v s) (v' s)) → ∀ t, Cap B U (cols tg len v f n t) (cols tg len v' f' n t)
  | 0, _, t => hf t
  | n + 1, hv, t => inn_rel (hv n (by omega)) (cols_rel hf n fun s hs => hv s (by omega)) _ t
theorem Cap_le {B U x y : Int} (h : Cap B U x y) : y ≤ 1000 := by
  unfold Cap at h; obtain ⟨_, _, h, _⟩ := h; rw [h]; split <;> omega
end Go.Proofs.YtenkjbkcdcionaaGreat
