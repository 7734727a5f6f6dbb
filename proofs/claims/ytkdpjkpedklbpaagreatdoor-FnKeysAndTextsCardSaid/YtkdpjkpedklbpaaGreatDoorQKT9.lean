/- FnKeysAndTexts is proved: whatever the input, the law returns true and its argument reads as it did. The listed package-level variables are tied to the program's text. -/
import Derived.Test.YtkdpjkpedklbpaaGreatDoorCards
import Derived.Test.YtkdpjkpedklbpaaGreatDoorTie
import Derived.LaidMore
import Derived.Lay
import Derived.SevenTiedAt
import Derived.Stop.Joined
import Derived.Stop.LaidErr
import Derived.Test.YtkdpjkpedklbpaaGreatDoorQKTH
import Derived.Test.YtkdpjkpedklbpaaGreatDoorQKT7
import Derived.Test.YtkdpjkpedklbpaaGreatDoorQKT8
/- FnKeysAndTexts. -/
namespace Go.Proofs.YtkdpjkpedklbpaaGreatDoor
set_option linter.unusedSimpArgs false
set_option linter.unusedVariables false
set_option maxRecDepth 20000
set_option maxHeartbeats 1000000
open Go.Abs

theorem neq_cipK (m : Int) (bx mx pl : Nat → UInt8) (r : Int) : abin Tryz.prog .neq 32 (.agg (Ci m bx mx pl r).toArray) (.agg (Ci m bx mx pl r).toArray) = some (.bool false) :=
  neq_self (by kernel_rfl) (by kernel_rfl) (by kernel_rfl) (by kernel_rfl) (by kernel_rfl) (Ci_oks m bx mx pl r)
theorem eql_self {P : Program} {T : TypeId} {ks : List CK} {cs : List Value} (hk : kinds P 8 T = some ks) (hg : P.eqGuardType P.depth T = false) (hm : P.keyTypeAt 8 T = true) (ha : tagg P T = some true) (hz : ks.length = P.cellsOf T) (ho : oks ks cs = true) :
    abin P .eql T (.agg cs.toArray) (.agg cs.toArray) = some (.bool true) := by
  have h : aeq P T cs cs = some true := by
    unfold aeq
    rw [hk, Option.bind_some, if_pos ⟨hg, hm, ha, hz, ho, ho⟩, leq_oks ho]
  show (aeq P T cs cs).map _ = _
  rw [h]; rfl
theorem eql_cipK (m : Int) (bx mx pl : Nat → UInt8) (r : Int) : abin Tryz.prog .eql 32 (.agg (Ci m bx mx pl r).toArray) (.agg (Ci m bx mx pl r).toArray) = some (.bool true) :=
  eql_self (by kernel_rfl) (by kernel_rfl) (by kernel_rfl) (by kernel_rfl) (by kernel_rfl) (Ci_oks m bx mx pl r)
theorem kb_at {m : Int} {q k : Nat} {bx mx pl : Nat → UInt8} (hc : cipB m bx mx pl (q : Int) = true) (hk : k < q) (hq : q ≤ 20) (y : Nat → UInt8) (h : List Blk) :
    AC Tryz.prog 9 [.agg (Ci m bx mx pl q).toArray, .agg (Bs 16 (kyF bx y (k + 1))).toArray, .int .i64 ((k + 1 : Nat) : Int)] h (.tuple #[.agg (Bs 16 (kyF bx y k)).toArray, .int .i64 0]) h := by
  have c := kbOI_ac m q bx mx pl (kyF bx y (k + 1)) ((k + 1 : Nat) : Int) h
  have hr : inR ((k + 1 : Nat) : Int) 1 20 = true := by unfold inR; rw [Bool.and_eq_true]; exact ⟨decide_eq_true (by omega), decide_eq_true (by omega)⟩
  unfold kbC at c
  rw [hc, hr, toB_nat, kb_key] at c
  exact c
theorem kyF_zero (bx y : Nat → UInt8) : kyF bx y 0 = y := rfl
attribute [local irreducible] cipB kyF keysF kbF kbC rdM rdX rdY rdP rdR rdC ciT
set_option maxHeartbeats 16000000 in
theorem fnKeysAndTexts_ok {h : List Blk} {cv : Value} (c : Cv h cv) : AC Tryz.prog 3 [cv] h (.bool true) h := by
  have hbg := big_ac c
  obtain ⟨m1, bx1', mx1', pl1', y1, r1, H1, hr1, e1, v1, d1'⟩ := drKor_op c
  obtain ⟨bx1, mx1, pl1, hnr, hci⟩ := Ci_nrm m1 bx1' mx1' pl1' r1
  rw [hci] at d1'
  have d1 := d1'
  clear hci d1'
  obtain ⟨K1, hK1⟩ : ∃ M, M = H1 ++ [⟨Ci m1 bx1 mx1 pl1 r1, true⟩, ⟨Bs 16 y1, true⟩] := ⟨_, rfl⟩
  have k10 : K1[H1.length]? = some ⟨Ci m1 bx1 mx1 pl1 r1, true⟩ := by rw [hK1]; simp
  have k11 : K1[H1.length + 1]? = some ⟨Bs 16 y1, true⟩ := by rw [hK1]; simp
  have lH1 := app_len e1
  have EK1 : ∃ A, K1 = h ++ A := by rw [hK1]; exact app_app e1
  have nK1 := app_len EK1
  obtain ⟨vA, vB, cA, HA, HB, eA, eB, dA, dB, dC, ⟨tA, tB⟩, pA⟩ := kor_op m1 r1 bx1 mx1 pl1 y1 K1
  have EB := app_tr eA eB
  have a0 : HA[H1.length]? = some ⟨Ci m1 bx1 mx1 pl1 r1, true⟩ := by obtain ⟨A, e⟩ := eA; rw [e]; exact look_old k10 A
  have a1 : HA[H1.length + 1]? = some ⟨Bs 16 y1, true⟩ := by obtain ⟨A, e⟩ := eA; rw [e]; exact look_old k11 A
  have b0 : HB[H1.length]? = some ⟨Ci m1 bx1 mx1 pl1 r1, true⟩ := by obtain ⟨A, e⟩ := EB; rw [e]; exact look_old k10 A
  have b1 : HB[H1.length + 1]? = some ⟨Bs 16 y1, true⟩ := by obtain ⟨A, e⟩ := EB; rw [e]; exact look_old k11 A
  have EHB := app_tr EK1 EB
  have nHB := app_len EHB
  obtain ⟨m3, bx3, mx3, pl3, y3, r3, n3, H3, hr3, e3, v3, d3⟩ := drKeb_op (cv_app c EHB : Cv HB cv)
  obtain ⟨g3, hg3⟩ : ∃ g, g = cond (cipB m3 bx3 mx3 pl3 r3 && inR (n3 : Int) 1 20) (kbF bx3 y3 (toB (n3 : Int))) zeroF := ⟨_, rfl⟩
  have c3I : ∀ H, AC Tryz.prog 9 [.agg (Ci m3 bx3 mx3 pl3 r3).toArray, .agg (Bs 16 y3).toArray, .int .i64 n3] H (.tuple #[.agg (Bs 16 g3).toArray, .int .i64 (kbC m3 bx3 mx3 pl3 r3 n3)]) H := fun H => by rw [hg3]; exact kbOI_ac m3 r3 bx3 mx3 pl3 y3 n3 H
  have c3S : ∀ H, AC Tryz.prog 11 [.agg (Ci m3 bx3 mx3 pl3 r3).toArray, .agg (Bs 16 y3).toArray, .int .i64 n3] H (.tuple #[.agg (Bs 16 g3).toArray, .int .i64 (kbC m3 bx3 mx3 pl3 r3 n3)]) H := fun H => by rw [hg3]; exact kbOS_ac m3 r3 bx3 mx3 pl3 y3 n3 H
  obtain ⟨K3, hK3⟩ : ∃ M, M = H3 ++ [⟨Ci m3 bx3 mx3 pl3 r3, true⟩, ⟨Bs 16 y3, true⟩, ⟨Bs 16 g3, true⟩, ⟨Bs 16 g3, true⟩] := ⟨_, rfl⟩
  have EH3 : ∃ A, K3 = HB ++ A := by rw [hK3]; exact app_app e3
  have EK3 := app_tr EHB EH3
  have nK3 := app_len EK3
  have nH3 := app_len (app_tr EHB e3)
  obtain ⟨m4, bx4, mx4, pl4, y4, f4, r4, n4, b4, H4, hr4, hn4, hb4, e4, v4, d4⟩ := drEca_op (cv_app c EK3 : Cv K3 cv)
  obtain ⟨K4, hK4⟩ : ∃ M, M = H4 ++ [⟨Ci m4 bx4 mx4 pl4 r4, true⟩, ⟨Bs 16 y4, true⟩] := ⟨_, rfl⟩
  have k40 : K4[H4.length]? = some ⟨Ci m4 bx4 mx4 pl4 r4, true⟩ := by rw [hK4]; simp
  have k41 : K4[H4.length + 1]? = some ⟨Bs 16 y4, true⟩ := by rw [hK4]; simp
  have hb4' : K4[b4]? = some ⟨Bs (n4 * 16) f4, true⟩ := by rw [hK4]; exact look_old hb4 _
  have EH4 : ∃ A, K4 = K3 ++ A := by rw [hK4]; exact app_app e4
  have EK4 := app_tr EK3 EH4
  have nK4 := app_len EK4
  have nH4 := app_len (app_tr EK3 e4)
  obtain ⟨vD, vE, cD, HD, HE, eD, eE, dD, dE, dF, ⟨tD, tE⟩⟩ := eca_op m4 r4 bx4 mx4 pl4 y4 hb4' hn4
  have u0 : HD[H4.length]? = some ⟨Ci m4 bx4 mx4 pl4 r4, true⟩ := by obtain ⟨A, e⟩ := eD; rw [e]; exact look_old k40 A
  have u1 : HD[H4.length + 1]? = some ⟨Bs 16 y4, true⟩ := by obtain ⟨A, e⟩ := eD; rw [e]; exact look_old k41 A
  have EHE := app_tr EK4 (app_tr eD eE)
  have nHE := app_len EHE
  obtain ⟨m5, bx5, mx5, pl5, y5, s5, r5, n5, H5, hr5, e5, v5, d5⟩ := drChb_op (cv_app c EHE : Cv HE cv)
  obtain ⟨K5, hK5⟩ : ∃ M, M = H5 ++ [⟨Ci m5 bx5 mx5 pl5 r5, true⟩, ⟨Bs 16 y5, true⟩, ⟨Bs 16 s5, true⟩] := ⟨_, rfl⟩
  have k50 : K5[H5.length]? = some ⟨Ci m5 bx5 mx5 pl5 r5, true⟩ := by rw [hK5]; simp
  have k51 : K5[H5.length + 1]? = some ⟨Bs 16 y5, true⟩ := by rw [hK5]; simp
  have k52 : K5[H5.length + 2]? = some ⟨Bs 16 s5, true⟩ := by rw [hK5]; simp
  have EH5 : ∃ A, K5 = HE ++ A := by rw [hK5]; exact app_app e5
  have EK5 := app_tr EHE EH5
  have nK5 := app_len EK5
  have nH5 := app_len (app_tr EHE e5)
  obtain ⟨vG, vH, cG, HG, HH, eG, eH, dG, dH, dI, ⟨tG, tH⟩, pG⟩ := chb_op m5 r5 bx5 mx5 pl5 y5 s5 n5 K5
  have w0 : HG[H5.length]? = some ⟨Ci m5 bx5 mx5 pl5 r5, true⟩ := by obtain ⟨A, e⟩ := eG; rw [e]; exact look_old k50 A
  have w1 : HG[H5.length + 1]? = some ⟨Bs 16 y5, true⟩ := by obtain ⟨A, e⟩ := eG; rw [e]; exact look_old k51 A
  have w2 : HG[H5.length + 2]? = some ⟨Bs 16 s5, true⟩ := by obtain ⟨A, e⟩ := eG; rw [e]; exact look_old k52 A
  have EHH := app_tr EK5 (app_tr eG eH)
  have nHH := app_len EHH
  obtain ⟨t6, H6, ht6, e6, v6, d6⟩ := drPac_op (cv_app c EHH : Cv HH cv)
  have E6 := app_tr EHH e6
  have n6 := app_len E6
  have EALL : ∃ A, H6 = K1 ++ A := app_tr (app_tr (app_tr (app_tr (app_tr (app_tr (app_tr EB EH3) EH4) (app_tr eD eE)) EH5) (app_tr eG eH)) e6) ⟨[], (List.append_nil _).symm⟩
  have i0 : H6[H1.length]? = some ⟨Ci m1 bx1 mx1 pl1 r1, true⟩ := by obtain ⟨A, e⟩ := EALL; rw [e]; exact look_old k10 A
  have hs6 : t6.size ≤ 1048576 := by omega
  (refine AC_begin (fun _ _ => Tryz.call3 _ _) Tryz.func3 rfl Tryz.ntmps3 Tryz.results3 (fun hwf => ?_); simp only [List.length_cons, List.length_nil, Nat.reduceAdd, Nat.reduceSub, List.replicate, List.cons_append, List.nil_append])
  (repeat (first | ((first | (refine And.intro ?_ ?_; focus exact PLA) | ((first | with_reducible apply callB_i | with_reducible apply callK_intro | with_reducible apply callQ_i); (focus (first | assumption | ((first | with_reducible apply hbg | with_reducible apply d1) <;> (first | assumption | rfl | (simp (disch := omega) only [go_sem]; first | done | rfl) | omega | decide | (simp; done))))); (try exact WP_au)) | refine WA_seq (WA_region (id := 0) ?_) | refine WA_region (id := 0) ?_ | refine WA_seq (WA_region (id := 1) ?_) | refine WA_region (id := 1) ?_ | refine WA_seq (WA_region (id := 3) ?_) | refine WA_region (id := 3) ?_ | refine WA_seq (WA_region (id := 4) ?_) | refine WA_region (id := 4) ?_ | refine WA_seq (WA_region (id := 5) ?_) | refine WA_region (id := 5) ?_ | refine WA_seq (WA_region (id := 6) ?_) | refine WA_region (id := 6) ?_ | refine WA_exit ?_); try simp (maxSteps := 1000000) (disch := first | omega | rfl | decide | (simp only [List.length_cons, List.length_nil, List.length_append, LV] <;> omega)) only [go_sem, Nat.reduceAdd, Int.reduceAdd, Int.reduceSub, Int.reduceMul, Bool.not_true, Bool.not_false, bne_self_eq_false, Ci_stC, Ci_splice_all, Bool.not_true, yieldA_at 2 107, yieldA_at 2 283, yieldA_at 3 68, yieldA_at 3 139, yieldA_at 3 167, yieldA_at 3 199, yieldA_at 3 249, yieldA_at 3 267, yieldA_at 5 216, yieldA_at 6 82, yieldA_at 12 223, yieldA_at 15 226]) | refine WA_seq ?_ | refine WA_block ?_ | (refine WA_skip ?_; try simp only [go_sem]) | (refine WA_ret ?_; try simp only [go_sem]) | refine WA_ct rfl ?_ | refine WA_cf rfl ?_))
  rw [← hK1]
  (repeat (first | ((first | (refine And.intro ?_ ?_; focus exact PLA) | ((first | with_reducible apply callB_i | with_reducible apply callK_intro | with_reducible apply callQ_i); (focus (first | assumption | ((first | with_reducible apply dA | with_reducible apply dB | with_reducible apply dC) <;> (first | assumption | rfl | (simp (disch := omega) only [go_sem]; first | done | rfl) | omega | decide | (simp; done))))); (try exact WP_au)) | refine WA_seq (WA_region (id := 5) ?_) | refine WA_region (id := 5) ?_ | refine WA_seq (WA_region (id := 6) ?_) | refine WA_region (id := 6) ?_ | refine WA_seq (WA_region (id := 8) ?_) | refine WA_region (id := 8) ?_ | refine WA_exit ?_); try simp (maxSteps := 1000000) (disch := first | omega | rfl | decide | (simp only [List.length_cons, List.length_nil, List.length_append, LV] <;> omega)) only [go_sem, Nat.reduceAdd, Int.reduceAdd, Int.reduceSub, Int.reduceMul, Bool.not_true, Bool.not_false, bne_self_eq_false, Ci_stC, Ci_splice_all, Bool.not_true, k10, k11, a0, a1, b0, b1, yieldA_at 2 107, yieldA_at 2 283, yieldA_at 3 68, yieldA_at 3 139, yieldA_at 3 167, yieldA_at 3 199, yieldA_at 3 249, yieldA_at 3 267, yieldA_at 5 216, yieldA_at 6 82, yieldA_at 12 223, yieldA_at 15 226]) | refine WA_seq ?_ | refine WA_block ?_ | (refine WA_skip ?_; try simp only [go_sem]) | (refine WA_ret ?_; try simp only [go_sem]) | refine WA_ct rfl ?_ | refine WA_cf rfl ?_))
  refine WA_wf fun hwfB => ?_
  have ovB : OldV HB.length cv := c.old nHB
  refine WA_midH [(2, J), (5, J), (6, J), (7, J), (8, J), (9, J), (10, J), (11, J), (53, J), (54, J), (55, J), (56, J), (57, J), (58, J), (59, J), (60, J), (61, J), (62, J), (63, J), (64, J), (65, J), (66, J), (67, J), (68, J), (69, J), (70, J), (71, J), (72, J), (73, J), (74, J), (75, J), (76, J), (77, J), (78, J), (79, J), (80, J), (81, J), (82, J), (83, J), (84, J), (85, J), (86, J), (87, J), (88, J), (89, J), (90, J), (91, J), (92, J), (93, J), (94, J), (95, J), (96, J), (97, J), (98, J), (99, J), (100, J), (101, J), (102, J), (103, J), (104, J), (105, J), (106, J), (107, J), (108, J), (109, J), (110, J), (111, J), (112, J), (113, J), (114, J), (115, J)] ?_ ?_ <;> (try simp only [patT_cons, patT_nil, patL_cons, patL_nil, list_set_zero, list_set_succ, blk_set_zero, blk_set_succ])
  · refine WA_cond rfl (fun hb => ?_) (fun hb => ?_)
    · rcases pA with hz | ⟨hz, hc, bA, q, hq, rfl, rfl, hkA⟩
      · rw [hz] at hb; cases hb
      · have hk0 := keys_row bx1 y1 0
        rw [kyF_zero] at hk0
        (repeat (first | ((first | (refine And.intro ?_ ?_; focus exact PLA) | refine WA_seq (WA_region ?_) | refine WA_region ?_ | refine WA_exit ?_); try simp (maxSteps := 1000000) (disch := first | omega | rfl | decide | (simp only [List.length_cons, List.length_nil, List.length_append, LV] <;> omega)) only [go_sem, Nat.reduceAdd, Int.reduceAdd, Int.reduceSub, Int.reduceMul, Bool.not_true, Bool.not_false, b0, b1, hkA, hk0, bne_self_eq_false, beq_self_eq_true, eqB_self, yieldA_at 2 107, yieldA_at 2 283, yieldA_at 3 68, yieldA_at 3 139, yieldA_at 3 167, yieldA_at 3 199, yieldA_at 3 249, yieldA_at 3 267, yieldA_at 5 216, yieldA_at 6 82, yieldA_at 12 223, yieldA_at 15 226]) | (refine WA_seq (WA_draw (id := 9) mixedOk (by kernel_rfl) ?_); simp (maxSteps := 1000000) (disch := first | omega | rfl | decide | (simp only [List.length_cons, List.length_nil, List.length_append, LV] <;> omega)) only [go_sem, Nat.reduceAdd, Int.reduceAdd, Int.reduceSub, Int.reduceMul, Bool.not_true, Bool.not_false, b0, b1, hkA, hk0, bne_self_eq_false, beq_self_eq_true, eqB_self, yieldA_at 2 107, yieldA_at 2 283, yieldA_at 3 68, yieldA_at 3 139, yieldA_at 3 167, yieldA_at 3 199, yieldA_at 3 249, yieldA_at 3 267, yieldA_at 5 216, yieldA_at 6 82, yieldA_at 12 223, yieldA_at 15 226]) | (refine WA_draw (id := 9) mixedOk (by kernel_rfl) ?_; simp (maxSteps := 1000000) (disch := first | omega | rfl | decide | (simp only [List.length_cons, List.length_nil, List.length_append, LV] <;> omega)) only [go_sem, Nat.reduceAdd, Int.reduceAdd, Int.reduceSub, Int.reduceMul, Bool.not_true, Bool.not_false, b0, b1, hkA, hk0, bne_self_eq_false, beq_self_eq_true, eqB_self, yieldA_at 2 107, yieldA_at 2 283, yieldA_at 3 68, yieldA_at 3 139, yieldA_at 3 167, yieldA_at 3 199, yieldA_at 3 249, yieldA_at 3 267, yieldA_at 5 216, yieldA_at 6 82, yieldA_at 12 223, yieldA_at 15 226]) | refine WA_seq ?_ | refine WA_block ?_ | (refine WA_skip ?_; try simp only [go_sem]) | (refine WA_ret ?_; try simp only [go_sem]) | refine WA_ct rfl ?_ | refine WA_cf rfl ?_))
        refine WA_forH (fun k => [(2, J), (7, J), (9, .int .i64 ((k + 1 : Nat) : Int)), (10, J), (11, J), (53, J), (54, J), (55, J), (56, J), (57, J), (58, J), (59, J), (60, J), (61, J), (62, J), (63, J), (64, J), (65, J), (66, J), (67, J), (68, J), (69, J), (70, J), (71, J), (72, J), (73, J), (74, J), (75, J), (76, J), (77, J), (78, J), (79, J), (80, J), (81, J), (82, J), (83, J), (84, J), (85, J), (86, J), (87, J), (88, J), (89, J), (90, J), (91, J), (92, J), (93, J), (94, J), (95, J), (96, J), (97, J), (98, J), (99, J), (100, J), (101, J), (102, J), (103, J), (104, J), (105, J), (106, J), (107, J), (108, J), (109, J), (110, J), (111, J), (112, J), (113, J), (114, J), (115, J)]) (fun k => HB) (q) ?_ ?_ ?_ <;> (try simp only [patT_cons, patT_nil, patL_cons, patL_nil, list_set_zero, list_set_succ, blk_set_zero, blk_set_succ])
        · (exact sA0)
        · intro k hk
          have hkk := keys_row bx1 y1 (k + 1)
          have hk1 := keys_row bx1 y1 k
          have hkb := kb_at (mx := mx1) (pl := pl1) hc hk hq y1
          (repeat (first | ((first | (refine And.intro ?_ ?_; focus exact PLA) | ((first | with_reducible apply callB_i | with_reducible apply callK_intro | with_reducible apply callQ_i); (focus (first | assumption | (with_reducible apply hkb <;> (first | assumption | rfl | (simp (disch := omega) only [go_sem]; first | done | rfl) | omega | decide | (simp; done))))); (try exact WP_au)) | refine WA_seq (WA_region ?_) | refine WA_region ?_ | refine WA_exit ?_); try simp (maxSteps := 1000000) (disch := first | omega | rfl | decide | (simp only [List.length_cons, List.length_nil, List.length_append, LV] <;> omega)) only [go_sem, Nat.reduceAdd, Int.reduceAdd, Int.reduceSub, Int.reduceMul, Bool.not_true, Bool.not_false, b0, b1, hkA, look_old b0, look_old hkA, hkk, show k + 1 - 1 = k from rfl, hk1, bne_self_eq_false, beq_self_eq_true, eqB_self, yieldA_at 2 107, yieldA_at 2 283, yieldA_at 3 68, yieldA_at 3 139, yieldA_at 3 167, yieldA_at 3 199, yieldA_at 3 249, yieldA_at 3 267, yieldA_at 5 216, yieldA_at 6 82, yieldA_at 12 223, yieldA_at 15 226]) | (refine (WA_rb (id := 14) [11] (SubM.refl _) mixedOk ?_); simp only [List.size_toArray, List.length_cons, List.length_nil]; (repeat (first | ((first | (refine And.intro ?_ ?_; focus exact PLA) | ((first | with_reducible apply callB_i | with_reducible apply callK_intro | with_reducible apply callQ_i); (focus (first | assumption | (with_reducible apply hkb <;> (first | assumption | rfl | (simp (disch := omega) only [go_sem]; first | done | rfl) | omega | decide | (simp; done))))); (try exact WP_au)) | refine RB_take false [1, 2, 3, 5] 9 (by rfl) (by kernel_rfl) (by decide) (by decide +kernel) ?_ | refine RB_take true [0, 4, 6] 6 (by rfl) (by kernel_rfl) (by decide) (by decide +kernel) ?_ | refine RB_take false [7, 8, 9] 3 (by rfl) (by kernel_rfl) (by decide) (by decide +kernel) ?_ | refine RB_keep 10 _ (by rfl) (by decide +kernel) (by first | (simp (disch := first | omega | decide) only [go_sem, List.getElem?_nil]; done) | fail) ?_ | refine RB_exec 11 _ (by rfl) (by decide +kernel) (by decide +kernel) ?_ | refine RB_take false [12] 0 (by rfl) (by kernel_rfl) (by decide) (by decide +kernel) ?_ | refine RB_done (by decide +kernel) ?_); try simp (maxSteps := 1000000) (disch := first | omega | rfl | decide | (simp only [List.length_cons, List.length_nil, List.length_append, LV] <;> omega)) only [go_sem, Nat.reduceAdd, Int.reduceAdd, Int.reduceSub, Int.reduceMul, Bool.not_true, Bool.not_false, b0, b1, hkA, look_old b0, look_old hkA, hkk, show k + 1 - 1 = k from rfl, hk1, bne_self_eq_false, beq_self_eq_true, eqB_self, yieldA_at 2 107, yieldA_at 2 283, yieldA_at 3 68, yieldA_at 3 139, yieldA_at 3 167, yieldA_at 3 199, yieldA_at 3 249, yieldA_at 3 267, yieldA_at 5 216, yieldA_at 6 82, yieldA_at 12 223, yieldA_at 15 226])))) | (refine WA_seq (WA_draw (id := 15) mixedOk (by kernel_rfl) ?_); simp (maxSteps := 1000000) (disch := first | omega | rfl | decide | (simp only [List.length_cons, List.length_nil, List.length_append, LV] <;> omega)) only [go_sem, Nat.reduceAdd, Int.reduceAdd, Int.reduceSub, Int.reduceMul, Bool.not_true, Bool.not_false, b0, b1, hkA, look_old b0, look_old hkA, hkk, show k + 1 - 1 = k from rfl, hk1, bne_self_eq_false, beq_self_eq_true, eqB_self, yieldA_at 2 107, yieldA_at 2 283, yieldA_at 3 68, yieldA_at 3 139, yieldA_at 3 167, yieldA_at 3 199, yieldA_at 3 249, yieldA_at 3 267, yieldA_at 5 216, yieldA_at 6 82, yieldA_at 12 223, yieldA_at 15 226]) | (refine WA_draw (id := 15) mixedOk (by kernel_rfl) ?_; simp (maxSteps := 1000000) (disch := first | omega | rfl | decide | (simp only [List.length_cons, List.length_nil, List.length_append, LV] <;> omega)) only [go_sem, Nat.reduceAdd, Int.reduceAdd, Int.reduceSub, Int.reduceMul, Bool.not_true, Bool.not_false, b0, b1, hkA, look_old b0, look_old hkA, hkk, show k + 1 - 1 = k from rfl, hk1, bne_self_eq_false, beq_self_eq_true, eqB_self, yieldA_at 2 107, yieldA_at 2 283, yieldA_at 3 68, yieldA_at 3 139, yieldA_at 3 167, yieldA_at 3 199, yieldA_at 3 249, yieldA_at 3 267, yieldA_at 5 216, yieldA_at 6 82, yieldA_at 12 223, yieldA_at 15 226]) | refine WA_seq ?_ | refine WA_block ?_ | (refine WA_skip ?_; try simp only [go_sem]) | (refine WA_ret ?_; try simp only [go_sem]) | refine WA_ct rfl ?_ | refine WA_cf rfl ?_))
          all_goals have lK1 : K1.length = H1.length + 2 := by rw [hK1]; simp
          all_goals have lHB := app_len EB
          all_goals have lbA := blt hkA
          all_goals have nHB' := nHB
          all_goals (refine Drop_gc0 (by first | assumption | exact Nat.le_refl _ | first | assumption | omega | (simp only [List.length_append, List.length_cons, List.length_nil, List.length_replicate]; omega)) (by assumption) ?_; (focus (repeat (first | exact JR_nil | refine JR_J ?_ | (refine JR_plain ?_ ?_; (focus first | rfl | (refine plain_agg ?_; simp only [go_sem, List.all_append, List.all_cons, List.all_nil, Bool.and_self]; done))) | ((first | refine JR_pt ?_ ?_ ?_ | refine JR_sl ?_ ?_ ?_); (focus first | (rw [rhoF_new0]; rfl) | (rw [rhoF_new]; rfl) | (rw [rhoF_old]; first | assumption | omega)); (focus first | assumption | omega | (simp only [List.length_append, List.length_cons, List.length_nil, List.length_replicate]; omega))) | (refine JR_plain' ?_ ?_ ?_; (focus first | rfl | (refine plain_agg ?_; simp only [go_sem, List.all_append, List.all_cons, List.all_nil, Bool.and_self]; done)); (focus (first | rfl | (simp only [Int.natCast_add, Int.natCast_one, Int.natCast_zero, Int.cast_ofNat_Int, Nat.add_zero]; done) | (simp only [Int.natCast_add, Int.natCast_one, Int.natCast_zero, Int.cast_ofNat_Int, Nat.add_zero]; rfl)))) | (refine JR_sl' ?_ ?_ ?_ ?_; (focus first | (rw [rhoF_new0]; rfl) | (rw [rhoF_new]; rfl) | (rw [rhoF_old]; first | assumption | omega)); (focus first | assumption | omega | (simp only [List.length_append, List.length_cons, List.length_nil, List.length_replicate]; omega)); (focus first | rfl | omega | (first | rfl | (simp only [Int.natCast_add, Int.natCast_one, Int.natCast_zero, Int.cast_ofNat_Int, Nat.add_zero]; done) | (simp only [Int.natCast_add, Int.natCast_one, Int.natCast_zero, Int.cast_ofNat_Int, Nat.add_zero]; rfl)))) | (refine JR_old ?_ (Nat.le_refl _) ?_; (focus assumption)))) ))
        · (refine sN (And.intro @b0 (And.intro (show decide (q + 1 ≤ q) = false from decide_eq_false (by omega)) (And.intro (@yieldA_at 2 107) (And.intro (@yieldA_at 2 283) (And.intro (@yieldA_at 3 68) (And.intro (@yieldA_at 3 139) (And.intro (@yieldA_at 3 167) (And.intro (@yieldA_at 3 199) (And.intro (@yieldA_at 3 249) (And.intro (@yieldA_at 3 267) (And.intro (@yieldA_at 5 216) (And.intro (@yieldA_at 6 82) (And.intro (@yieldA_at 12 223) (@yieldA_at 15 226)))))))))))))) ?_)
          (exact sA0)
    · (refine sN (And.intro (@yieldA_at 2 107) (And.intro (@yieldA_at 2 283) (And.intro (@yieldA_at 3 68) (And.intro (@yieldA_at 3 139) (And.intro (@yieldA_at 3 167) (And.intro (@yieldA_at 3 199) (And.intro (@yieldA_at 3 249) (And.intro (@yieldA_at 3 267) (And.intro (@yieldA_at 5 216) (And.intro (@yieldA_at 6 82) (And.intro (@yieldA_at 12 223) (@yieldA_at 15 226)))))))))))) ?_)
      (exact sA0)
  have nHB' := nHB
  (repeat (first | ((first | (refine And.intro ?_ ?_; focus exact PLA) | ((first | with_reducible apply callB_i | with_reducible apply callK_intro | with_reducible apply callQ_i); (focus (first | assumption | ((first | with_reducible apply d3 | with_reducible apply c3I | with_reducible apply c3S) <;> (first | assumption | rfl | (simp (disch := omega) only [go_sem]; first | done | rfl) | omega | decide | (simp; done))))); (try exact WP_au)) | refine WA_seq (WA_region (id := 17) ?_) | refine WA_region (id := 17) ?_ | refine WA_seq (WA_region (id := 18) ?_) | refine WA_region (id := 18) ?_ | refine WA_seq (WA_region (id := 19) ?_) | refine WA_region (id := 19) ?_ | refine WA_seq (WA_region (id := 20) ?_) | refine WA_region (id := 20) ?_ | refine WA_exit ?_); try simp (maxSteps := 1000000) (disch := first | omega | rfl | decide | (simp only [List.length_cons, List.length_nil, List.length_append, LV] <;> omega)) only [go_sem, Nat.reduceAdd, Int.reduceAdd, Int.reduceSub, Int.reduceMul, Bool.not_true, Bool.not_false, bne_self_eq_false, Ci_stC, Ci_splice_all, Bool.not_true, eqB_self, yieldA_at 2 107, yieldA_at 2 283, yieldA_at 3 68, yieldA_at 3 139, yieldA_at 3 167, yieldA_at 3 199, yieldA_at 3 249, yieldA_at 3 267, yieldA_at 5 216, yieldA_at 6 82, yieldA_at 12 223, yieldA_at 15 226]) | refine WA_seq ?_ | refine WA_block ?_ | (refine WA_skip ?_; try simp only [go_sem]) | (refine WA_ret ?_; try simp only [go_sem]) | refine WA_ct rfl ?_ | refine WA_cf rfl ?_))
  rw [← hK3]
  (repeat (first | ((first | (refine And.intro ?_ ?_; focus exact PLA) | ((first | with_reducible apply callB_i | with_reducible apply callK_intro | with_reducible apply callQ_i); (focus (first | assumption | (with_reducible apply d4 <;> (first | assumption | rfl | (simp (disch := omega) only [go_sem]; first | done | rfl) | omega | decide | (simp; done))))); (try exact WP_au)) | refine WA_seq (WA_region (id := 22) ?_) | refine WA_region (id := 22) ?_ | refine WA_seq (WA_region (id := 23) ?_) | refine WA_region (id := 23) ?_ | refine WA_exit ?_); try simp (maxSteps := 1000000) (disch := first | omega | rfl | decide | (simp only [List.length_cons, List.length_nil, List.length_append, LV] <;> omega)) only [go_sem, Nat.reduceAdd, Int.reduceAdd, Int.reduceSub, Int.reduceMul, Bool.not_true, Bool.not_false, bne_self_eq_false, Ci_stC, Ci_splice_all, Bool.not_true, eqB_self, yieldA_at 2 107, yieldA_at 2 283, yieldA_at 3 68, yieldA_at 3 139, yieldA_at 3 167, yieldA_at 3 199, yieldA_at 3 249, yieldA_at 3 267, yieldA_at 5 216, yieldA_at 6 82, yieldA_at 12 223, yieldA_at 15 226]) | refine WA_seq ?_ | refine WA_block ?_ | (refine WA_skip ?_; try simp only [go_sem]) | (refine WA_ret ?_; try simp only [go_sem]) | refine WA_ct rfl ?_ | refine WA_cf rfl ?_))
  rw [← hK4]
  (repeat (first | ((first | (refine And.intro ?_ ?_; focus exact PLA) | ((first | with_reducible apply callB_i | with_reducible apply callK_intro | with_reducible apply callQ_i); (focus (first | assumption | ((first | with_reducible apply dD | with_reducible apply dE | with_reducible apply dF) <;> (first | assumption | rfl | (simp (disch := omega) only [go_sem]; first | done | rfl) | omega | decide | (simp; done))))); (try exact WP_au)) | refine WA_seq (WA_region (id := 23) ?_) | refine WA_region (id := 23) ?_ | refine WA_seq (WA_region (id := 24) ?_) | refine WA_region (id := 24) ?_ | refine WA_seq (WA_region (id := 25) ?_) | refine WA_region (id := 25) ?_ | refine WA_exit ?_); try simp (maxSteps := 1000000) (disch := first | omega | rfl | decide | (simp only [List.length_cons, List.length_nil, List.length_append, LV] <;> omega)) only [go_sem, Nat.reduceAdd, Int.reduceAdd, Int.reduceSub, Int.reduceMul, Bool.not_true, Bool.not_false, bne_self_eq_false, Ci_stC, Ci_splice_all, Bool.not_true, k40, k41, u0, u1, yieldA_at 2 107, yieldA_at 2 283, yieldA_at 3 68, yieldA_at 3 139, yieldA_at 3 167, yieldA_at 3 199, yieldA_at 3 249, yieldA_at 3 267, yieldA_at 5 216, yieldA_at 6 82, yieldA_at 12 223, yieldA_at 15 226]) | refine WA_seq ?_ | refine WA_block ?_ | (refine WA_skip ?_; try simp only [go_sem]) | (refine WA_ret ?_; try simp only [go_sem]) | refine WA_ct rfl ?_ | refine WA_cf rfl ?_))
  (repeat (first | ((first | (refine And.intro ?_ ?_; focus exact PLA) | ((first | with_reducible apply callB_i | with_reducible apply callK_intro | with_reducible apply callQ_i); (focus (first | assumption | (with_reducible apply d5 <;> (first | assumption | rfl | (simp (disch := omega) only [go_sem]; first | done | rfl) | omega | decide | (simp; done))))); (try exact WP_au)) | refine WA_seq (WA_region (id := 27) ?_) | refine WA_region (id := 27) ?_ | refine WA_seq (WA_region (id := 28) ?_) | refine WA_region (id := 28) ?_ | refine WA_exit ?_); try simp (maxSteps := 1000000) (disch := first | omega | rfl | decide | (simp only [List.length_cons, List.length_nil, List.length_append, LV] <;> omega)) only [go_sem, Nat.reduceAdd, Int.reduceAdd, Int.reduceSub, Int.reduceMul, Bool.not_true, Bool.not_false, bne_self_eq_false, Ci_stC, Ci_splice_all, Bool.not_true, yieldA_at 2 107, yieldA_at 2 283, yieldA_at 3 68, yieldA_at 3 139, yieldA_at 3 167, yieldA_at 3 199, yieldA_at 3 249, yieldA_at 3 267, yieldA_at 5 216, yieldA_at 6 82, yieldA_at 12 223, yieldA_at 15 226]) | refine WA_seq ?_ | refine WA_block ?_ | (refine WA_skip ?_; try simp only [go_sem]) | (refine WA_ret ?_; try simp only [go_sem]) | refine WA_ct rfl ?_ | refine WA_cf rfl ?_))
  rw [← hK5]
  (repeat (first | ((first | (refine And.intro ?_ ?_; focus exact PLA) | ((first | with_reducible apply callB_i | with_reducible apply callK_intro | with_reducible apply callQ_i); (focus (first | assumption | ((first | with_reducible apply dG | with_reducible apply dH | with_reducible apply dI) <;> (first | assumption | rfl | (simp (disch := omega) only [go_sem]; first | done | rfl) | omega | decide | (simp; done))))); (try exact WP_au)) | refine WA_seq (WA_region (id := 28) ?_) | refine WA_region (id := 28) ?_ | refine WA_seq (WA_region (id := 29) ?_) | refine WA_region (id := 29) ?_ | refine WA_seq (WA_region (id := 30) ?_) | refine WA_region (id := 30) ?_ | refine WA_seq (WA_region (id := 32) ?_) | refine WA_region (id := 32) ?_ | refine WA_exit ?_); try simp (maxSteps := 1000000) (disch := first | omega | rfl | decide | (simp only [List.length_cons, List.length_nil, List.length_append, LV] <;> omega)) only [go_sem, Nat.reduceAdd, Int.reduceAdd, Int.reduceSub, Int.reduceMul, Bool.not_true, Bool.not_false, bne_self_eq_false, Ci_stC, Ci_splice_all, Bool.not_true, k50, k51, k52, w0, w1, w2, yieldA_at 2 107, yieldA_at 2 283, yieldA_at 3 68, yieldA_at 3 139, yieldA_at 3 167, yieldA_at 3 199, yieldA_at 3 249, yieldA_at 3 267, yieldA_at 5 216, yieldA_at 6 82, yieldA_at 12 223, yieldA_at 15 226]) | refine WA_seq ?_ | refine WA_block ?_ | (refine WA_skip ?_; try simp only [go_sem]) | (refine WA_ret ?_; try simp only [go_sem]) | refine WA_ct rfl ?_ | refine WA_cf rfl ?_))
  obtain ⟨A6, hA6⟩ := E6
  rcases pG with rfl | ⟨bG, F, rfl, hF, hFp⟩
  · refine WA_forH (fun k => [(2, J), (34, .int .i64 k), (205, J), (206, J), (207, J), (208, J), (209, J), (210, J), (211, J), (212, J), (213, J), (214, J), (215, J), (216, J), (217, J), (218, J), (219, J), (220, J), (221, J), (222, J), (223, J), (224, J), (225, J), (226, J), (227, J), (228, J), (229, J), (230, J), (231, J), (232, J), (233, J)]) (fun k => HH) (0) ?_ ?_ ?_ <;> (try simp only [patT_cons, patT_nil, patL_cons, patL_nil, list_set_zero, list_set_succ, blk_set_zero, blk_set_succ])
    · (exact sA0)
    · intro k hk
      omega
    · (repeat (first | ((first | (refine And.intro ?_ ?_; focus exact PLA) | refine WA_seq (WA_region (id := 33) ?_) | refine WA_region (id := 33) ?_ | refine WA_exit ?_); try simp (maxSteps := 1000000) (disch := first | omega | rfl | decide | (simp only [List.length_cons, List.length_nil, List.length_append, LV] <;> omega)) only [go_sem, Nat.reduceAdd, Int.reduceAdd, Int.reduceSub, Int.reduceMul, Bool.not_true, Bool.not_false, show decide ((0 : Nat) < 0) = false from rfl, show decide ((0 : Int) < 0) = false from rfl, yieldA_at 2 107, yieldA_at 2 283, yieldA_at 3 68, yieldA_at 3 139, yieldA_at 3 167, yieldA_at 3 199, yieldA_at 3 249, yieldA_at 3 267, yieldA_at 5 216, yieldA_at 6 82, yieldA_at 12 223, yieldA_at 15 226]) | refine WA_seq ?_ | refine WA_block ?_ | (refine WA_skip ?_; try simp only [go_sem]) | (refine WA_ret ?_; try simp only [go_sem]) | refine WA_ct rfl ?_ | refine WA_cf rfl ?_))
      (repeat (first | ((first | (refine And.intro ?_ ?_; focus exact PLA) | ((first | with_reducible apply callB_i | with_reducible apply callK_intro | with_reducible apply callQ_i); (focus (first | assumption | ((first | with_reducible apply d6 | with_reducible apply pcI_ac hs6 | with_reducible apply pcS_ac hs6) <;> (first | assumption | rfl | (simp (disch := omega) only [go_sem]; first | done | rfl) | omega | decide | (simp; done))))); (try exact WP_au)) | refine WA_seq (WA_region (id := 37) ?_) | refine WA_region (id := 37) ?_ | refine WA_seq (WA_region (id := 38) ?_) | refine WA_region (id := 38) ?_ | refine WA_seq (WA_region (id := 39) ?_) | refine WA_region (id := 39) ?_ | refine WA_seq (WA_region (id := 40) ?_) | refine WA_region (id := 40) ?_ | refine WA_exit ?_); try simp (maxSteps := 1000000) (disch := first | omega | rfl | decide | (simp only [List.length_cons, List.length_nil, List.length_append, LV] <;> omega)) only [go_sem, Nat.reduceAdd, Int.reduceAdd, Int.reduceSub, Int.reduceMul, Bool.not_true, Bool.not_false, bne_self_eq_false, Ci_stC, Ci_splice_all, Bool.not_true, neq_cipK, yieldA_at 2 107, yieldA_at 2 283, yieldA_at 3 68, yieldA_at 3 139, yieldA_at 3 167, yieldA_at 3 199, yieldA_at 3 249, yieldA_at 3 267, yieldA_at 5 216, yieldA_at 6 82, yieldA_at 12 223, yieldA_at 15 226]) | refine WA_seq ?_ | refine WA_block ?_ | (refine WA_skip ?_; try simp only [go_sem]) | (refine WA_ret ?_; try simp only [go_sem]) | refine WA_ct rfl ?_ | refine WA_cf rfl ?_))
      cases hc1 : cipB m1 bx1 mx1 pl1 r1
      · (refine sW (And.intro @Ci_stC (And.intro @Ci_splice_all (And.intro @i0 (And.intro (look_old i0) (And.intro (show ((1 : Int) != 0) = true from rfl) (And.intro (@yieldA_at 2 107) (And.intro (@yieldA_at 2 283) (And.intro (@yieldA_at 3 68) (And.intro (@yieldA_at 3 139) (And.intro (@yieldA_at 3 167) (And.intro (@yieldA_at 3 199) (And.intro (@yieldA_at 3 249) (And.intro (@yieldA_at 3 267) (And.intro (@yieldA_at 5 216) (And.intro (@yieldA_at 6 82) (And.intro (@yieldA_at 12 223) (@yieldA_at 15 226))))))))))))))))) (And.intro (ctI_no hc1) (ctS_no hc1)) ?_)
        rw [hA6, List.append_assoc]
        (exact sR0)
      · obtain ⟨p, rfl, h0, h1, _, _, _, q, rfl, _, hq⟩ := cipB_nat hc1
        have hp3 := dT_sz (n := p) (by omega)
        have hq3 := dT_sz (n := q) (by omega)
        have hsz := ciT_size (m := p) (r := q) (by omega) (by omega) bx1 mx1 pl1
        have hbk := pcI_ac (s := ciT p bx1 mx1 pl1 q) (by omega)
        obtain ⟨z0, z1, z2, z3, z4, z5⟩ := rd_ciT (m := p) (r := q) (by omega) (by omega) (by omega) (by omega) hnr hc1
        rw [z0, z1, z2, z3, z4, z5] at hbk
        (refine sW (And.intro @Ci_stC (And.intro @Ci_splice_all (And.intro @i0 (And.intro (look_old i0) (And.intro @eql_cipK (And.intro (@yieldA_at 2 107) (And.intro (@yieldA_at 2 283) (And.intro (@yieldA_at 3 68) (And.intro (@yieldA_at 3 139) (And.intro (@yieldA_at 3 167) (And.intro (@yieldA_at 3 199) (And.intro (@yieldA_at 3 249) (And.intro (@yieldA_at 3 267) (And.intro (@yieldA_at 5 216) (And.intro (@yieldA_at 6 82) (And.intro (@yieldA_at 12 223) (@yieldA_at 15 226))))))))))))))))) (And.intro (ctI_ok (m := p) (r := q) (by omega) (by omega) hc1) (And.intro (ctS_ok (m := p) (r := q) (by omega) (by omega) hc1) @hbk)) ?_)
        rw [hA6, List.append_assoc]
        (exact sR0)
  · refine WA_forH (fun k => [(2, J), (34, .int .i64 k), (205, J), (206, J), (207, J), (208, J), (209, J), (210, J), (211, J), (212, J), (213, J), (214, J), (215, J), (216, J), (217, J), (218, J), (219, J), (220, J), (221, J), (222, J), (223, J), (224, J), (225, J), (226, J), (227, J), (228, J), (229, J), (230, J), (231, J), (232, J), (233, J)]) (fun k => HH) (128) ?_ ?_ ?_ <;> (try simp only [patT_cons, patT_nil, patL_cons, patL_nil, list_set_zero, list_set_succ, blk_set_zero, blk_set_succ])
    · (exact sA0)
    · intro k hk
      obtain ⟨f1, f2, f3⟩ := hFp k hk
      have g1 : decide (F k < 1) = false := decide_eq_false (by omega)
      have g2 : decide (128 < F k) = false := decide_eq_false (by omega)
      by_cases hn0 : n5 = 0
      · have g3 := f3 hn0
        have g4 : (n5 == 0) = true := by rw [hn0]; rfl
        (refine sN (And.intro @hF (And.intro @g1 (And.intro @g2 (And.intro @g3 (And.intro @g4 (And.intro (show decide ((1 : Int) < 1) = false from rfl) (And.intro (show decide ((128 : Int) < 1) = false from rfl) (And.intro (@yieldA_at 2 107) (And.intro (@yieldA_at 2 283) (And.intro (@yieldA_at 3 68) (And.intro (@yieldA_at 3 139) (And.intro (@yieldA_at 3 167) (And.intro (@yieldA_at 3 199) (And.intro (@yieldA_at 3 249) (And.intro (@yieldA_at 3 267) (And.intro (@yieldA_at 5 216) (And.intro (@yieldA_at 6 82) (And.intro (@yieldA_at 12 223) (@yieldA_at 15 226))))))))))))))))))) ?_)
        (exact sA0)
      · have g4 : (n5 == 0) = false := by rw [beq_eq_false_iff_ne]; exact hn0
        (refine sN (And.intro @hF (And.intro @g1 (And.intro @g2 (And.intro @g4 (And.intro (@yieldA_at 2 107) (And.intro (@yieldA_at 2 283) (And.intro (@yieldA_at 3 68) (And.intro (@yieldA_at 3 139) (And.intro (@yieldA_at 3 167) (And.intro (@yieldA_at 3 199) (And.intro (@yieldA_at 3 249) (And.intro (@yieldA_at 3 267) (And.intro (@yieldA_at 5 216) (And.intro (@yieldA_at 6 82) (And.intro (@yieldA_at 12 223) (@yieldA_at 15 226)))))))))))))))) ?_)
        (exact sA0)
    · (repeat (first | ((first | (refine And.intro ?_ ?_; focus exact PLA) | refine WA_seq (WA_region (id := 33) ?_) | refine WA_region (id := 33) ?_ | refine WA_exit ?_); try simp (maxSteps := 1000000) (disch := first | omega | rfl | decide | (simp only [List.length_cons, List.length_nil, List.length_append, LV] <;> omega)) only [go_sem, Nat.reduceAdd, Int.reduceAdd, Int.reduceSub, Int.reduceMul, Bool.not_true, Bool.not_false, yieldA_at 2 107, yieldA_at 2 283, yieldA_at 3 68, yieldA_at 3 139, yieldA_at 3 167, yieldA_at 3 199, yieldA_at 3 249, yieldA_at 3 267, yieldA_at 5 216, yieldA_at 6 82, yieldA_at 12 223, yieldA_at 15 226]) | refine WA_seq ?_ | refine WA_block ?_ | (refine WA_skip ?_; try simp only [go_sem]) | (refine WA_ret ?_; try simp only [go_sem]) | refine WA_ct rfl ?_ | refine WA_cf rfl ?_))
      (repeat (first | ((first | (refine And.intro ?_ ?_; focus exact PLA) | ((first | with_reducible apply callB_i | with_reducible apply callK_intro | with_reducible apply callQ_i); (focus (first | assumption | ((first | with_reducible apply d6 | with_reducible apply pcI_ac hs6 | with_reducible apply pcS_ac hs6) <;> (first | assumption | rfl | (simp (disch := omega) only [go_sem]; first | done | rfl) | omega | decide | (simp; done))))); (try exact WP_au)) | refine WA_seq (WA_region (id := 37) ?_) | refine WA_region (id := 37) ?_ | refine WA_seq (WA_region (id := 38) ?_) | refine WA_region (id := 38) ?_ | refine WA_seq (WA_region (id := 39) ?_) | refine WA_region (id := 39) ?_ | refine WA_seq (WA_region (id := 40) ?_) | refine WA_region (id := 40) ?_ | refine WA_exit ?_); try simp (maxSteps := 1000000) (disch := first | omega | rfl | decide | (simp only [List.length_cons, List.length_nil, List.length_append, LV] <;> omega)) only [go_sem, Nat.reduceAdd, Int.reduceAdd, Int.reduceSub, Int.reduceMul, Bool.not_true, Bool.not_false, bne_self_eq_false, Ci_stC, Ci_splice_all, Bool.not_true, neq_cipK, yieldA_at 2 107, yieldA_at 2 283, yieldA_at 3 68, yieldA_at 3 139, yieldA_at 3 167, yieldA_at 3 199, yieldA_at 3 249, yieldA_at 3 267, yieldA_at 5 216, yieldA_at 6 82, yieldA_at 12 223, yieldA_at 15 226]) | refine WA_seq ?_ | refine WA_block ?_ | (refine WA_skip ?_; try simp only [go_sem]) | (refine WA_ret ?_; try simp only [go_sem]) | refine WA_ct rfl ?_ | refine WA_cf rfl ?_))
      cases hc1 : cipB m1 bx1 mx1 pl1 r1
      · (refine sW (And.intro @Ci_stC (And.intro @Ci_splice_all (And.intro @i0 (And.intro (look_old i0) (And.intro (show ((1 : Int) != 0) = true from rfl) (And.intro (@yieldA_at 2 107) (And.intro (@yieldA_at 2 283) (And.intro (@yieldA_at 3 68) (And.intro (@yieldA_at 3 139) (And.intro (@yieldA_at 3 167) (And.intro (@yieldA_at 3 199) (And.intro (@yieldA_at 3 249) (And.intro (@yieldA_at 3 267) (And.intro (@yieldA_at 5 216) (And.intro (@yieldA_at 6 82) (And.intro (@yieldA_at 12 223) (@yieldA_at 15 226))))))))))))))))) (And.intro (ctI_no hc1) (ctS_no hc1)) ?_)
        rw [hA6, List.append_assoc]
        (exact sR0)
      · obtain ⟨p, rfl, h0, h1, _, _, _, q, rfl, _, hq⟩ := cipB_nat hc1
        have hp3 := dT_sz (n := p) (by omega)
        have hq3 := dT_sz (n := q) (by omega)
        have hsz := ciT_size (m := p) (r := q) (by omega) (by omega) bx1 mx1 pl1
        have hbk := pcI_ac (s := ciT p bx1 mx1 pl1 q) (by omega)
        obtain ⟨z0, z1, z2, z3, z4, z5⟩ := rd_ciT (m := p) (r := q) (by omega) (by omega) (by omega) (by omega) hnr hc1
        rw [z0, z1, z2, z3, z4, z5] at hbk
        (refine sW (And.intro @Ci_stC (And.intro @Ci_splice_all (And.intro @i0 (And.intro (look_old i0) (And.intro @eql_cipK (And.intro (@yieldA_at 2 107) (And.intro (@yieldA_at 2 283) (And.intro (@yieldA_at 3 68) (And.intro (@yieldA_at 3 139) (And.intro (@yieldA_at 3 167) (And.intro (@yieldA_at 3 199) (And.intro (@yieldA_at 3 249) (And.intro (@yieldA_at 3 267) (And.intro (@yieldA_at 5 216) (And.intro (@yieldA_at 6 82) (And.intro (@yieldA_at 12 223) (@yieldA_at 15 226))))))))))))))))) (And.intro (ctI_ok (m := p) (r := q) (by omega) (by omega) hc1) (And.intro (ctS_ok (m := p) (r := q) (by omega) (by omega) hc1) @hbk)) ?_)
        rw [hA6, List.append_assoc]
        (exact sR0)

end Go.Proofs.YtkdpjkpedklbpaaGreatDoor
namespace Go.Proofs.YtkdpjkpedklbpaaGreatDoor
set_option linter.unusedSimpArgs false
set_option linter.unusedVariables false
set_option maxRecDepth 20000
set_option maxHeartbeats 1000000
open Go.Abs

theorem fnKeysAndTexts_big {b n : Nat} (hn : 4096 < n) (hn2 : n ≤ 9223372036854775807) (h : List Blk) : AC Tryz.prog 3 [sl b 0 n 1] h (.bool true) h := by
  have hbg := big_long (b := b) hn hn2
  (refine AC_begin (fun _ _ => Tryz.call3 _ _) Tryz.func3 rfl Tryz.ntmps3 Tryz.results3 (fun hwf => ?_); simp only [List.length_cons, List.length_nil, Nat.reduceAdd, Nat.reduceSub, List.replicate, List.cons_append, List.nil_append])
  (refine sW (And.intro (@yieldA_at 2 107) (And.intro (@yieldA_at 2 283) (And.intro (@yieldA_at 3 68) (And.intro (@yieldA_at 3 139) (And.intro (@yieldA_at 3 167) (And.intro (@yieldA_at 3 199) (And.intro (@yieldA_at 3 249) (And.intro (@yieldA_at 3 267) (And.intro (@yieldA_at 5 216) (And.intro (@yieldA_at 6 82) (And.intro (@yieldA_at 12 223) (@yieldA_at 15 226)))))))))))) @hbg ?_)
  (exact sR0)

theorem fnKeysAndTexts_args (us : List Value) (bl : List Blk) (h : ArgsU Tryz.prog 0 [22] us bl) : AC Tryz.prog 3 us bl (.bool true) bl := by
  rcases h.list (m := 1) (e := 5) (by kernel_rfl) (by kernel_rfl) with ⟨us1, rfl, h1⟩ | ⟨n1, f1, us1, bl1, rfl, rfl, hn1, h1⟩
  · obtain ⟨rfl, rfl⟩ := h1.done
    exact fnKeysAndTexts_ok .nil
  · obtain ⟨rfl, rfl⟩ := h1.done
    rw [Nat.mul_one]
    rcases Nat.lt_or_ge 4096 n1 with hl | hl
    · exact fnKeysAndTexts_big hl (by have : maxLen = 9223372036854775807 := rfl; omega) _
    · exact fnKeysAndTexts_ok (Cv.sl (h := [⟨Bs n1 f1, false⟩]) (bc := 0) (f := f1) (rc := false) rfl hl)

theorem star_es : "*" ++ "errors.errorString" = "*errors.errorString" := by decide
theorem row_es (u : TypeId) (h : Tryz.prog.typeName? 3 u = some "*errors.errorString") : u = 210 :=
  typeName_ptr_named (nm := "errors.errorString") (by rw [star_es]; kernel_rfl) (by kernel_rfl) (by decide) u (by rw [star_es]; exact h)
theorem keysAndTexts_door {W : World} (h : W.ShapedOpen Tryz.prog) (hX : laidMetH Tryz.prog Rows.fnKeysAndTextsRow.laid W) : doorOk W := by
  rw [MakeChecks.laidMetH_plain _ _ _ (by kernel_rfl)] at hX
  have e : (Rows.laid_internal_strconv_uint64pow10 (H := Unit)) = Lib.tabData .u64 Lib.pow10Tab := by kernel_rfl
  have h3 : laidMet Tryz.prog [("internal/strconv.uint64pow10", Rows.laid_internal_strconv_uint64pow10), ("unicode/utf8.acceptRanges", Rows.laid_unicode_utf8_acceptRanges), ("strconv.ErrRange", Rows.laid_strconv_ErrRange), ("strconv.ErrSyntax", Rows.laid_strconv_ErrSyntax), ("unicode/utf8.first", Rows.laid_unicode_utf8_first)] W := laidMet.tail (laidMet.tail hX)
  have h5 : laidMet Tryz.prog [("strconv.ErrRange", Rows.laid_strconv_ErrRange), ("strconv.ErrSyntax", Rows.laid_strconv_ErrSyntax), ("unicode/utf8.first", Rows.laid_unicode_utf8_first)] W := laidMet.tail (laidMet.tail h3)
  have h6 : laidMet Tryz.prog [("strconv.ErrSyntax", Rows.laid_strconv_ErrSyntax), ("unicode/utf8.first", Rows.laid_unicode_utf8_first)] W := laidMet.tail h5
  rw [e] at h3
  have gR : Tryz.prog.globalNamed "strconv.ErrRange" = some 2 := by kernel_rfl
  have gS : Tryz.prog.globalNamed "strconv.ErrSyntax" = some 1 := by kernel_rfl
  obtain ⟨a0, s0, hv0, -, -, -⟩ := laid_sentinel (ti := 127) (tp := 210) (te := 212) (ts := 9) h5 gR (by kernel_rfl) Tryz.underlying127 row_es Tryz.underlying210 Tryz.underlying212 rfl rfl Tryz.underlying9 (by kernel_rfl) (by kernel_rfl)
  obtain ⟨a1, s1, hv1, -, -, -⟩ := laid_sentinel (ti := 127) (tp := 210) (te := 212) (ts := 9) h6 gS (by kernel_rfl) Tryz.underlying127 row_es Tryz.underlying210 Tryz.underlying212 rfl rfl Tryz.underlying9 (by kernel_rfl) (by kernel_rfl)
  exact doorOk.mk h (doorB.of_tab (Lib.tabIs_of_head (g := 5) (t := 203) (e := 112) (n := 20) (by kernel_rfl) (by kernel_rfl) (by kernel_rfl) (by kernel_rfl) (by kernel_rfl) (by kernel_rfl) h3))
    ⟨_, _, by have h0 := World.var?_cell gS hv1 0; simpa using h0⟩ ⟨_, _, by have h0 := World.var?_cell gR hv0 0; simpa using h0⟩

set_option maxRecDepth 100000 in
set_option maxHeartbeats 1000000 in
theorem fnKeysAndTexts_lifted (os : Os) (started : os.Started) (H : Type) (enc : TypeId × Value → H) :
    ReturnsInHanded {} Tryz.checked os 3 .any (fun w args => (Rows.fnKeysAndTextsSpec.pre enc Tryz.prog Tryz.f3 Rows.fnKeysAndTextsRow.domain false w args ∧ laidMetH Tryz.prog Rows.fnKeysAndTextsRow.laid w) ∧ sizedMet enc Tryz.prog Tryz.f3 (OpenSpec.ofChange Rows.fnKeysAndTextsSpec) false w args) (Rows.fnKeysAndTextsSpec.post enc Tryz.prog Tryz.f3 false true false false) :=
  frame_law_laid (C := Tryz.checked) (X := fun w => laidMetH Tryz.prog Rows.fnKeysAndTextsRow.laid w) (fun _ _ hh h => h.of_heap hh) (by kernel_rfl) started (by kernel_rfl) Tryz.func3 (by kernel_rfl)
    (ChangeSpec.witness_shaped (enc := enc) (C := Tryz.checked) (os := os) (X := fun w _ => laidMetH Tryz.prog Rows.fnKeysAndTextsRow.laid w) false (World.laidAll Tryz.prog os Rows.fnKeysAndTextsRow.laid) #[.slice none 0 0] 8 (World.laidAll_os _ _ _)
      (World.shaped_of_ZipB (by kernel_rfl) (by kernel_rfl)) (by kernel_rfl) (by kernel_rfl) (by kernel_rfl)
      (by rw [MakeChecks.laidMetH_plain _ _ _ (by kernel_rfl)]; exact laidMet_laidAll _ (by kernel_rfl) (by kernel_rfl)))
    rfl (fun ds h => by rw [Tryz.params3] at h; match ds, h with | [_], _ => rfl) (fun W h hX => keysAndTexts_door h hX) (by rfl) Tryz.underlying4 (by rw [Tryz.params3]; kernel_rfl)
    (by rw [Tryz.params3]; exact fnKeysAndTexts_args)

theorem fnKeysAndTexts_row : Rows.FnKeysAndTextsSaid :=
  OpenClaim.holds_of_wide 3 Tryz.f3 rfl rfl rfl rfl rfl rfl rfl ⟨rfl, rfl, rfl, rfl, rfl⟩ rfl rfl rfl rfl rfl (by kernel_rfl) Tryz.func3 (by kernel_rfl)
    (of_decide_eq_true (by kernel_rfl)) (by unfold Func.isWrapper; first | (rw [if_pos (by decide +kernel)]; kernel_rfl) | (rw [if_neg (by decide +kernel)]; exact ⟨rfl, rfl⟩))
    (fun os started H enc _ => fnKeysAndTexts_lifted os started H enc)

/-- ████ THE STATEMENT ████ -/
theorem fnKeysAndTexts : Rows.FnKeysAndTextsCardSaid :=
  Claim7.holds_tied_plain_at .later [] [.data, .data, .data, .data, .sentinel, .sentinel, .pinned] true (true, "5789436faa4cdd38c8ab181f44174d3de402b4fa21748693501f9af819aaed17") true fnKeysAndTexts_row (fun _ h => by cases h) (by kernel_rfl) (fun _ h => by cases h) fnKeysAndTexts_row_tie rfl ⟨rfl, rfl⟩ (by kernel_rfl) rfl
    (fun f fn hf hfn => by
      obtain rfl : f = 3 := Option.some.inj ((show Tryz.prog.funcNamed Tryz.f3.name = some 3 by kernel_rfl).symm.trans hf) |>.symm
      obtain rfl : fn = Tryz.f3 := (Option.some.inj (Tryz.func3.symm.trans hfn)).symm
      exact ⟨by kernel_rfl, fun j t ht => by
        rw [Tryz.params3] at ht
        have hm := Array.mem_of_getElem? ht
        have hall : (Tryz.f3.params.toList.all fun u => !Tryz.prog.wantsStandIn u) = true := by kernel_rfl
        rw [Tryz.params3] at hall
        have h2 := List.all_eq_true.1 hall t (by simpa using hm)
        exact (show Tryz.prog.wantsStandIn t = false by simpa using h2)⟩)
    (by kernel_rfl)
#print axioms fnKeysAndTexts
end Go.Proofs.YtkdpjkpedklbpaaGreatDoor
