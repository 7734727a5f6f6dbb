/- A part of the proof of FnKeysAndTexts. -/
import Derived.Test.YtkdpjkpedklbpaaGreatDoorQKTH
import Derived.Test.YtkdpjkpedklbpaaGreatDoorQKT3
import Derived.Test.YtkdpjkpedklbpaaGreatDoorQKT4
/- Draws for the law on keys and texts. -/
namespace Go.Proofs.YtkdpjkpedklbpaaGreatDoor
set_option linter.unusedSimpArgs false
set_option linter.unusedVariables false
set_option maxRecDepth 20000
set_option maxHeartbeats 1000000
open Go.Abs

theorem drKor_op {h : List Blk} {cv : Value} (c : Cv h cv) : ∃ (m : Int) (bx mx pl y : Nat → UInt8) (r : Int) (H : List Blk), (-1 ≤ r ∧ r ≤ 1000) ∧ (∃ A, H = h ++ A) ∧ Cv H cv ∧ AC Tryz.prog 5 [cv] h (.tuple #[.agg (Ci m bx mx pl r).toArray, .agg (Bs 16 y).toArray]) H := by
  obtain ⟨m, bx, mx, pl, y, s, r, h1, hr, e1, v1, c1⟩ := three_op (c.app [⟨Ci 0 zeroF zeroF zeroF 0, true⟩, ⟨Bs 16 zeroF, true⟩])
  have k0 : (h1)[h.length]? = some ⟨Ci 0 zeroF zeroF zeroF 0, true⟩ := by obtain ⟨L, rfl⟩ := e1; simp
  have k1 : (h1)[h.length + 1]? = some ⟨Bs 16 zeroF, true⟩ := by obtain ⟨L, rfl⟩ := e1; simp
  have hR3 := look_old k0 [⟨Ci m bx mx pl r, true⟩, ⟨Bs 16 y, true⟩, ⟨Bs 16 s, true⟩]
  have hO3 := look_old k1 [⟨Ci m bx mx pl r, true⟩, ⟨Bs 16 y, true⟩, ⟨Bs 16 s, true⟩]
  have hO4 := set_at (x := ⟨Ci m bx mx pl r, true⟩) hO3 (show h.length ≠ h.length + 1 by omega)
  have hR5 := set_at (x := ⟨Bs 16 y, true⟩) (look_set (x := ⟨Ci m bx mx pl r, true⟩) (blt hR3)) (show h.length + 1 ≠ h.length by omega)
  have l1 := blt k1
  have hlen : h.length ≤ (h1 ++ ([⟨Ci m bx mx pl r, true⟩, ⟨Bs 16 y, true⟩, ⟨Bs 16 s, true⟩] : List Blk)).length := by simp; omega
  have e : ∃ L, ((h1 ++ ([⟨Ci m bx mx pl r, true⟩, ⟨Bs 16 y, true⟩, ⟨Bs 16 s, true⟩] : List Blk)).set h.length ⟨Ci m bx mx pl r, true⟩).set (h.length + 1) ⟨Bs 16 y, true⟩ = h ++ L := setX (setX (app_app (app_more e1)) (Nat.le_refl _) _) (by omega) _
  have kc : (h1 ++ ([⟨Ci m bx mx pl r, true⟩, ⟨Bs 16 y, true⟩, ⟨Bs 16 s, true⟩] : List Blk))[h1.length]? = some ⟨Ci m bx mx pl r, true⟩ := by simp
  have ky : (h1 ++ ([⟨Ci m bx mx pl r, true⟩, ⟨Bs 16 y, true⟩, ⟨Bs 16 s, true⟩] : List Blk))[h1.length + 1]? = some ⟨Bs 16 y, true⟩ := by simp
  have q0 := set_at (x := dead) kc (show h.length ≠ h1.length by omega)
  have q1 := set_at (x := dead) ky (show h.length ≠ h1.length + 1 by omega)
  have p0 := look_set (x := dead) (blt hR3)
  have p1 : True := trivial
  refine ⟨m, bx, mx, pl, y, r, _, hr, e, cv_app c e, ?_⟩
  (refine AC_begin (fun _ _ => Tryz.call5 _ _) Tryz.func5 rfl Tryz.ntmps5 Tryz.results5 (fun hwf => ?_); simp only [List.length_cons, List.length_nil, Nat.reduceAdd, Nat.reduceSub, List.replicate, List.cons_append, List.nil_append])
  (refine sW (And.intro @Ci_stC @Ci_splice_all) @c1 ?_)
  first | refine WA_seq (WA_rb (id := 2) [3] (SubM.set (SubM.refl _) h.length) mixedOk ?_) | refine WA_rb (id := 2) [3] (SubM.set (SubM.refl _) h.length) mixedOk ?_
  simp only [List.size_toArray, List.length_cons, List.length_nil]
  refine RB_take true [0, 1] 2 (by rfl) (by kernel_rfl) (by decide) (by decide +kernel) ?_
  (refine sU (And.intro @Ci_stC (And.intro @Ci_splice_all (And.intro @hR3 (And.intro @hO3 (And.intro @hO4 (And.intro @q0 (And.intro @q1 @p0))))))) ?_)
  refine RB_keep 2 _ (by rfl) (by decide +kernel) (by simp (maxSteps := 1000000) (disch := first | omega | rfl | decide | (simp only [List.length_cons, List.length_nil, List.length_append, Bs_length] <;> omega)) only [go_sem, Nat.reduceAdd, Ci_stC, Ci_splice_all, hR3, hO3, hO4, q0, q1, p0]) ?_
  (refine sU (And.intro @Ci_stC (And.intro @Ci_splice_all (And.intro @hR3 (And.intro @hO3 (And.intro @hO4 (And.intro @q0 (And.intro @q1 @p0))))))) ?_)
  refine RB_exec 3 _ (by rfl) (by decide +kernel) (by decide +kernel) ?_
  (refine sU (And.intro @Ci_stC (And.intro @Ci_splice_all (And.intro @hR3 (And.intro @hO3 (And.intro @hO4 (And.intro @q0 (And.intro @q1 @p0))))))) ?_)
  refine RB_done (by decide +kernel) ?_
  (refine sU (And.intro @Ci_stC (And.intro @Ci_splice_all (And.intro @hR3 (And.intro @hO3 (And.intro @hO4 (And.intro @q0 (And.intro @q1 @p0))))))) ?_)
  (refine sN0 ?_)
  refine ret_full (by first | exact .inr rfl | exact .inl rfl) (by simp only [List.length_set, List.length_append, List.length_cons, List.length_nil] at hlen ⊢; omega) ?_
  simp (maxSteps := 1000000) (disch := first | omega | rfl | decide | (simp only [List.length_cons, List.length_nil, List.length_append, LV] <;> omega)) only [go_sem, Nat.reduceAdd, Int.reduceAdd, Int.reduceSub, Int.reduceMul, Bool.not_true, Bool.not_false, hR5, look_set (blt hO4)]
  try rfl

set_option maxHeartbeats 8000000 in
theorem drKeb_op {h : List Blk} {cv : Value} (c : Cv h cv) : ∃ (m : Int) (bx mx pl y : Nat → UInt8) (r : Int) (n : Nat) (H : List Blk), (-1 ≤ r ∧ r ≤ 1000) ∧ (∃ A, H = h ++ A) ∧ Cv H cv ∧ AC Tryz.prog 10 [cv] h (.tuple #[.agg (Ci m bx mx pl r).toArray, .agg (Bs 16 y).toArray, .int .i64 n]) H := by
  obtain ⟨h1, s1, e1, c1⟩ := from_aft (c.app [⟨Ci 0 zeroF zeroF zeroF 0, true⟩, ⟨Bs 16 zeroF, true⟩])
  have hlA : (h ++ [(⟨Ci 0 zeroF zeroF zeroF 0, true⟩ : Blk), ⟨Bs 16 zeroF, true⟩]).length = h.length + 2 := by simp
  rw [hlA] at s1 c1
  have hl1 := s1.lt
  have hR0 : (h1)[h.length]? = some ⟨Ci 0 zeroF zeroF zeroF 0, true⟩ := by obtain ⟨L, rfl⟩ := e1; simp
  have hO0 : (h1)[h.length + 1]? = some ⟨Bs 16 zeroF, true⟩ := by obtain ⟨L, rfl⟩ := e1; simp
  have v1 : Cv h1 cv := cv_app c (app_more e1)
  obtain ⟨m, bx, mx, pl, y, s, r, h2, hr, e2, v2, c2⟩ := three_op v1
  have a2 : Aft h1 h2 (h.length + 2) cv := by obtain ⟨L, rfl⟩ := e2; exact s1.more L
  have hl2 : h1.length ≤ h2.length := a2.len
  have a3 := a2.src.more [⟨Ci m bx mx pl r, true⟩, ⟨Bs 16 y, true⟩, ⟨Bs 16 s, true⟩]
  obtain ⟨x, k4, k4', h4, hx, hb4, hr4, g4, a4, c4⟩ := next_N a3.src (N := 22) (by omega) (by omega)
  have A := (a2.trans a3).trans a4
  have kc : (h2 ++ ([⟨Ci m bx mx pl r, true⟩, ⟨Bs 16 y, true⟩, ⟨Bs 16 s, true⟩] : List Blk))[h2.length]? = some ⟨Ci m bx mx pl r, true⟩ := by simp
  have ky : (h2 ++ ([⟨Ci m bx mx pl r, true⟩, ⟨Bs 16 y, true⟩, ⟨Bs 16 s, true⟩] : List Blk))[h2.length + 1]? = some ⟨Bs 16 y, true⟩ := by simp
  have q0 := set_at (x := dead) (set_at (x := dead) (set_at (x := dead) kc (show h.length ≠ h2.length by omega)) (show h.length + 1 ≠ h2.length by omega)) (show h.length + 2 ≠ h2.length by omega)
  have q1 := set_at (x := dead) (set_at (x := dead) (set_at (x := dead) ky (show h.length ≠ h2.length + 1 by omega)) (show h.length + 1 ≠ h2.length + 1 by omega)) (show h.length + 2 ≠ h2.length + 1 by omega)
  have lM : (h2 ++ ([⟨Ci m bx mx pl r, true⟩, ⟨Bs 16 y, true⟩, ⟨Bs 16 s, true⟩] : List Blk)).length = h2.length + 3 := by simp
  have hR3 := A.keep _ _ (by omega) hR0
  have hO3 := A.keep _ _ (by omega) hO0
  have p0 : ((((h2 ++ ([⟨Ci m bx mx pl r, true⟩, ⟨Bs 16 y, true⟩, ⟨Bs 16 s, true⟩] : List Blk)).set h.length dead).set (h.length + 1) dead).set (h.length + 2) dead)[h.length]? = some dead := set_at (set_at (look_set (by omega)) (by omega)) (by omega)
  have p1 : ((((h2 ++ ([⟨Ci m bx mx pl r, true⟩, ⟨Bs 16 y, true⟩, ⟨Bs 16 s, true⟩] : List Blk)).set h.length dead).set (h.length + 1) dead).set (h.length + 2) dead)[h.length + 1]? = some dead := set_at (look_set (by simp only [List.length_set]; omega)) (by omega)
  have p3 : ((((h2 ++ ([⟨Ci m bx mx pl r, true⟩, ⟨Bs 16 y, true⟩, ⟨Bs 16 s, true⟩] : List Blk)).set h.length dead).set (h.length + 1) dead).set (h.length + 2) dead)[h.length + 2]? = some dead := look_set (by simp only [List.length_set]; omega)
  have hO4 := set_at (x := ⟨Ci m bx mx pl r, true⟩) hO3 (show h.length ≠ h.length + 1 by omega)
  have hR5 := set_at (x := ⟨Bs 16 y, true⟩) (look_set (x := ⟨Ci m bx mx pl r, true⟩) (blt hR3)) (show h.length + 1 ≠ h.length by omega)
  have hlen : h.length ≤ h4.length := by have := A.len; omega
  have e : ∃ L, (h4.set h.length ⟨Ci m bx mx pl r, true⟩).set (h.length + 1) ⟨Bs 16 y, true⟩ = h ++ L := setX (setX (A.app h (by omega) (app_more e1)) (Nat.le_refl _) _) (by omega) _
  refine ⟨m, bx, mx, pl, y, r, x, _, hr, e, cv_app c e, ?_⟩
  (refine AC_begin (fun _ _ => Tryz.call10 _ _) Tryz.func10 rfl Tryz.ntmps10 Tryz.results10 (fun hwf => ?_); simp only [List.length_cons, List.length_nil, Nat.reduceAdd, Nat.reduceSub, List.replicate, List.cons_append, List.nil_append])
  (refine sW (And.intro @Ci_stC @Ci_splice_all) (And.intro @c1 @c2) ?_)
  first | refine WA_seq (WA_rb (id := 3) [5] (SubM.set (SubM.set (SubM.set (SubM.refl _) h.length) (h.length + 1)) (h.length + 2)) mixedOk ?_) | refine WA_rb (id := 3) [5] (SubM.set (SubM.set (SubM.set (SubM.refl _) h.length) (h.length + 1)) (h.length + 2)) mixedOk ?_
  simp only [List.size_toArray, List.length_cons, List.length_nil]
  refine RB_take false [2] 6 (by rfl) (by kernel_rfl) (by decide) (by decide +kernel) ?_
  (refine sU (And.intro @Ci_stC (And.intro @Ci_splice_all (And.intro @hR3 (And.intro @hO3 (And.intro @hO4 (And.intro @q0 (And.intro @q1 (And.intro @p0 @p1)))))))) ?_)
  refine RB_take true [0, 1] 4 (by rfl) (by kernel_rfl) (by decide) (by decide +kernel) ?_
  (refine sU (And.intro @Ci_stC (And.intro @Ci_splice_all (And.intro @hR3 (And.intro @hO3 (And.intro @hO4 (And.intro @q0 (And.intro @q1 (And.intro @p0 @p1)))))))) ?_)
  refine RB_keepN (h.length + 2) 3 3 (by rfl) (by decide +kernel) (by rw [p3]; exact rfl) ?_
  (refine sU (And.intro @Ci_stC (And.intro @Ci_splice_all (And.intro @hR3 (And.intro @hO3 (And.intro @hO4 (And.intro @q0 (And.intro @q1 (And.intro @p0 @p1)))))))) ?_)
  refine callN_i hb4 hr4 c4 ?_
  rw [← g4]
  (refine sU (And.intro @Ci_stC (And.intro @Ci_splice_all (And.intro @hR3 (And.intro @hO3 (And.intro @hO4 (And.intro @q0 (And.intro @q1 (And.intro @p0 @p1)))))))) ?_)
  refine RB_keep 4 _ (by rfl) (by decide +kernel) (by simp (maxSteps := 1000000) (disch := first | omega | rfl | decide | (simp only [List.length_cons, List.length_nil, List.length_append, Bs_length] <;> omega)) only [go_sem, Nat.reduceAdd, Ci_stC, Ci_splice_all, hR3, hO3, hO4, q0, q1, p0, p1]) ?_
  (refine sU (And.intro @Ci_stC (And.intro @Ci_splice_all (And.intro @hR3 (And.intro @hO3 (And.intro @hO4 (And.intro @q0 (And.intro @q1 (And.intro @p0 @p1)))))))) ?_)
  refine RB_exec 5 _ (by rfl) (by decide +kernel) (by decide +kernel) ?_
  (refine sU (And.intro @Ci_stC (And.intro @Ci_splice_all (And.intro @hR3 (And.intro @hO3 (And.intro @hO4 (And.intro @q0 (And.intro @q1 (And.intro @p0 @p1)))))))) ?_)
  refine RB_take false [6] 0 (by rfl) (by kernel_rfl) (by decide) (by decide +kernel) ?_
  (refine sU (And.intro @Ci_stC (And.intro @Ci_splice_all (And.intro @hR3 (And.intro @hO3 (And.intro @hO4 (And.intro @q0 (And.intro @q1 (And.intro @p0 @p1)))))))) ?_)
  refine RB_done (by decide +kernel) ?_
  (refine sU (And.intro @Ci_stC (And.intro @Ci_splice_all (And.intro @hR3 (And.intro @hO3 (And.intro @hO4 (And.intro @q0 (And.intro @q1 (And.intro @p0 @p1)))))))) ?_)
  (refine sN0 ?_)
  refine ret_full (by first | exact .inr rfl | exact .inl rfl) (by simp only [List.length_set]; omega) ?_
  simp (maxSteps := 1000000) (disch := first | omega | rfl | decide | (simp only [List.length_cons, List.length_nil, List.length_append, LV] <;> omega)) only [go_sem, Nat.reduceAdd, Int.reduceAdd, Int.reduceSub, Int.reduceMul, Bool.not_true, Bool.not_false, hR5, look_set (blt hO4)]
  try rfl

set_option maxHeartbeats 8000000 in
theorem drChb_op {h : List Blk} {cv : Value} (c : Cv h cv) : ∃ (m : Int) (bx mx pl y s : Nat → UInt8) (r n : Int) (H : List Blk), (-1 ≤ r ∧ r ≤ 1000) ∧ (∃ A, H = h ++ A) ∧ Cv H cv ∧ AC Tryz.prog 15 [cv] h (.tuple #[.agg (Ci m bx mx pl r).toArray, .agg (Bs 16 y).toArray, .agg (Bs 16 s).toArray, .int .i64 n]) H := by
  obtain ⟨m, bx, mx, pl, y, s, r, n, h1, hr, e1, v1, c1⟩ := drEsh_op (c.app [⟨Ci 0 zeroF zeroF zeroF 0, true⟩, ⟨Bs 16 zeroF, true⟩, ⟨Bs 16 zeroF, true⟩])
  have k0 : (h1)[h.length]? = some ⟨Ci 0 zeroF zeroF zeroF 0, true⟩ := by obtain ⟨L, rfl⟩ := e1; simp
  have k1 : (h1)[h.length + 1]? = some ⟨Bs 16 zeroF, true⟩ := by obtain ⟨L, rfl⟩ := e1; simp
  have k2 : (h1)[h.length + 2]? = some ⟨Bs 16 zeroF, true⟩ := by obtain ⟨L, rfl⟩ := e1; simp
  have hR3 := look_old k0 [⟨Ci m bx mx pl r, true⟩, ⟨Bs 16 y, true⟩, ⟨Bs 16 s, true⟩]
  have hO3 := look_old k1 [⟨Ci m bx mx pl r, true⟩, ⟨Bs 16 y, true⟩, ⟨Bs 16 s, true⟩]
  have hP3 := look_old k2 [⟨Ci m bx mx pl r, true⟩, ⟨Bs 16 y, true⟩, ⟨Bs 16 s, true⟩]
  have hO4 := set_at (x := ⟨Ci m bx mx pl r, true⟩) hO3 (show h.length ≠ h.length + 1 by omega)
  have hP4 := set_at (x := ⟨Bs 16 y, true⟩) (set_at (x := ⟨Ci m bx mx pl r, true⟩) hP3 (show h.length ≠ h.length + 2 by omega)) (show h.length + 1 ≠ h.length + 2 by omega)
  have hR5 := set_at (x := ⟨Bs 16 s, true⟩) (set_at (x := ⟨Bs 16 y, true⟩) (look_set (x := ⟨Ci m bx mx pl r, true⟩) (blt hR3)) (show h.length + 1 ≠ h.length by omega)) (show h.length + 2 ≠ h.length by omega)
  have hO5 := set_at (x := ⟨Bs 16 s, true⟩) (look_set (x := ⟨Bs 16 y, true⟩) (blt hO4)) (show h.length + 2 ≠ h.length + 1 by omega)
  have l1 := blt k2
  have hlen : h.length ≤ (h1 ++ ([⟨Ci m bx mx pl r, true⟩, ⟨Bs 16 y, true⟩, ⟨Bs 16 s, true⟩] : List Blk)).length := by simp; omega
  have e : ∃ L, (((h1 ++ ([⟨Ci m bx mx pl r, true⟩, ⟨Bs 16 y, true⟩, ⟨Bs 16 s, true⟩] : List Blk)).set h.length ⟨Ci m bx mx pl r, true⟩).set (h.length + 1) ⟨Bs 16 y, true⟩).set (h.length + 2) ⟨Bs 16 s, true⟩ = h ++ L := setX (setX (setX (app_app (app_more e1)) (Nat.le_refl _) _) (by omega) _) (by omega) _
  have kc : (h1 ++ ([⟨Ci m bx mx pl r, true⟩, ⟨Bs 16 y, true⟩, ⟨Bs 16 s, true⟩] : List Blk))[h1.length]? = some ⟨Ci m bx mx pl r, true⟩ := by simp
  have ky : (h1 ++ ([⟨Ci m bx mx pl r, true⟩, ⟨Bs 16 y, true⟩, ⟨Bs 16 s, true⟩] : List Blk))[h1.length + 1]? = some ⟨Bs 16 y, true⟩ := by simp
  have ks : (h1 ++ ([⟨Ci m bx mx pl r, true⟩, ⟨Bs 16 y, true⟩, ⟨Bs 16 s, true⟩] : List Blk))[h1.length + 2]? = some ⟨Bs 16 s, true⟩ := by simp
  have q0 := set_at (x := dead) (set_at (x := dead) kc (show h.length ≠ h1.length by omega)) (show h.length + 1 ≠ h1.length by omega)
  have q1 := set_at (x := dead) (set_at (x := dead) ky (show h.length ≠ h1.length + 1 by omega)) (show h.length + 1 ≠ h1.length + 1 by omega)
  have q2 := set_at (x := dead) (set_at (x := dead) ks (show h.length ≠ h1.length + 2 by omega)) (show h.length + 1 ≠ h1.length + 2 by omega)
  have p0 := set_at (x := dead) (look_set (x := dead) (blt hR3)) (show h.length + 1 ≠ h.length by omega)
  have p1 := look_set (x := dead) (blt (set_at (x := dead) hO3 (show h.length ≠ h.length + 1 by omega)))
  refine ⟨m, bx, mx, pl, y, s, r, (if 4 < n then 4 else n), _, hr, e, cv_app c e, ?_⟩
  (refine AC_begin (fun _ _ => Tryz.call15 _ _) Tryz.func15 rfl Tryz.ntmps15 Tryz.results15 (fun hwf => ?_); simp only [List.length_cons, List.length_nil, Nat.reduceAdd, Nat.reduceSub, List.replicate, List.cons_append, List.nil_append])
  (refine sW (And.intro @Ci_stC @Ci_splice_all) @c1 ?_)
  first | refine WA_seq (WA_rb (id := 2) [7] (SubM.set (SubM.set (SubM.refl _) h.length) (h.length + 1)) mixedOk ?_) | refine WA_rb (id := 2) [7] (SubM.set (SubM.set (SubM.refl _) h.length) (h.length + 1)) mixedOk ?_
  simp only [List.size_toArray, List.length_cons, List.length_nil]
  refine RB_take false [3, 4] 7 (by rfl) (by kernel_rfl) (by decide) (by decide +kernel) ?_
  (refine sU (And.intro @Ci_stC (And.intro @Ci_splice_all (And.intro @hR3 (And.intro @hO3 (And.intro @hP3 (And.intro @hO4 (And.intro @hP4 (And.intro @q0 (And.intro @q1 (And.intro @q2 (And.intro @p0 @p1))))))))))) ?_)
  refine RB_take true [0, 1, 2] 4 (by rfl) (by kernel_rfl) (by decide) (by decide +kernel) ?_
  (refine sU (And.intro @Ci_stC (And.intro @Ci_splice_all (And.intro @hR3 (And.intro @hO3 (And.intro @hP3 (And.intro @hO4 (And.intro @hP4 (And.intro @q0 (And.intro @q1 (And.intro @q2 (And.intro @p0 @p1))))))))))) ?_)
  refine RB_keep 5 _ (by rfl) (by decide +kernel) (by simp (maxSteps := 1000000) (disch := first | omega | rfl | decide | (simp only [List.length_cons, List.length_nil, List.length_append, Bs_length] <;> omega)) only [go_sem, Nat.reduceAdd, Ci_stC, Ci_splice_all, hR3, hO3, hP3, hO4, hP4, q0, q1, q2, p0, p1]) ?_
  (refine sU (And.intro @Ci_stC (And.intro @Ci_splice_all (And.intro @hR3 (And.intro @hO3 (And.intro @hP3 (And.intro @hO4 (And.intro @hP4 (And.intro @q0 (And.intro @q1 (And.intro @q2 (And.intro @p0 @p1))))))))))) ?_)
  refine RB_keep 6 _ (by rfl) (by decide +kernel) (by simp (maxSteps := 1000000) (disch := first | omega | rfl | decide | (simp only [List.length_cons, List.length_nil, List.length_append, Bs_length] <;> omega)) only [go_sem, Nat.reduceAdd, Ci_stC, Ci_splice_all, hR3, hO3, hP3, hO4, hP4, q0, q1, q2, p0, p1]) ?_
  (refine sU (And.intro @Ci_stC (And.intro @Ci_splice_all (And.intro @hR3 (And.intro @hO3 (And.intro @hP3 (And.intro @hO4 (And.intro @hP4 (And.intro @q0 (And.intro @q1 (And.intro @q2 (And.intro @p0 @p1))))))))))) ?_)
  refine RB_exec 7 _ (by rfl) (by decide +kernel) (by decide +kernel) ?_
  (refine sU (And.intro @Ci_stC (And.intro @Ci_splice_all (And.intro @hR3 (And.intro @hO3 (And.intro @hP3 (And.intro @hO4 (And.intro @hP4 (And.intro @q0 (And.intro @q1 (And.intro @q2 (And.intro @p0 @p1))))))))))) ?_)
  refine RB_take false [8] 0 (by rfl) (by kernel_rfl) (by decide) (by decide +kernel) ?_
  (refine sU (And.intro @Ci_stC (And.intro @Ci_splice_all (And.intro @hR3 (And.intro @hO3 (And.intro @hP3 (And.intro @hO4 (And.intro @hP4 (And.intro @q0 (And.intro @q1 (And.intro @q2 (And.intro @p0 @p1))))))))))) ?_)
  refine RB_done (by decide +kernel) ?_
  (refine sU (And.intro @Ci_stC (And.intro @Ci_splice_all (And.intro @hR3 (And.intro @hO3 (And.intro @hP3 (And.intro @hO4 (And.intro @hP4 (And.intro @q0 (And.intro @q1 (And.intro @q2 (And.intro @p0 @p1))))))))))) ?_)
  (refine sN0 ?_)
  refine ret_full (by first | exact .inr rfl | exact .inl rfl) (by simp only [List.length_set, List.length_append, List.length_cons, List.length_nil] at hlen ⊢; omega) ?_
  simp (maxSteps := 1000000) (disch := first | omega | rfl | decide | (simp only [List.length_cons, List.length_nil, List.length_append, LV] <;> omega)) only [go_sem, Nat.reduceAdd, Int.reduceAdd, Int.reduceSub, Int.reduceMul, Bool.not_true, Bool.not_false, hR5, hO5, look_set (blt hP4)]
  try rfl

theorem drPac_op {h : List Blk} {cv : Value} (c : Cv h cv) : ∃ (t : ByteArray) (H : List Blk), t.size ≤ 1000000 ∧ (∃ A, H = h ++ A) ∧ Cv H cv ∧ AC Tryz.prog 19 [cv] h (.string t) H := by
  obtain ⟨h1, s1, e1, c1⟩ := from_aft c
  obtain ⟨m, bx, mx, pl, r, h2, ⟨hr, hm⟩, a2, c2⟩ := l04DrawB_aft s1
  obtain ⟨m, rfl⟩ : ∃ q : Nat, m = q := ⟨m.toNat, by omega⟩
  obtain ⟨r, rfl⟩ : ∃ q : Nat, r = q := ⟨r.toNat, by omega⟩
  have ct := textS_ac (m := m) (r := r) (by omega) (by omega) bx mx pl
  have hz := ciT_size (m := m) (r := r) (by omega) (by omega) bx mx pl
  obtain ⟨x, h3, hx, a3, c3⟩ := next_aft a2.src (N := 4) (by omega) (by omega)
  by_cases h0 : x = 0
  · subst h0
    obtain ⟨o, h4, ho, a4, c4⟩ := damage_aft a3.src (t := ciT m bx mx pl r) (by omega)
    have e4 := ((a2.trans a3).trans a4).app h (Nat.le_refl _) e1
    have hlen := app_len e4
    refine ⟨o, h4, ho, e4, cv_app c e4, ?_⟩
    (refine AC_begin (fun _ _ => Tryz.call19 _ _) Tryz.func19 rfl Tryz.ntmps19 Tryz.results19 (fun hwf => ?_); simp only [List.length_cons, List.length_nil, Nat.reduceAdd, Nat.reduceSub, List.replicate, List.cons_append, List.nil_append])
    (refine sW (show (((0 : Nat) : Int) == 0) = true from rfl) (And.intro @c1 (And.intro @c2 (And.intro @ct (And.intro @c3 @c4)))) ?_)
    refine ret_full (by first | exact .inr rfl | exact .inl rfl) hlen ?_
    simp (maxSteps := 1000000) (disch := first | omega | rfl | decide | (simp only [List.length_cons, List.length_nil, List.length_append, LV] <;> omega)) only [go_sem, Nat.reduceAdd, Int.reduceAdd, Int.reduceSub, Int.reduceMul, Bool.not_true, Bool.not_false]
    try rfl
  · have e4 := (a2.trans a3).app h (Nat.le_refl _) e1
    have hlen := app_len e4
    have hb : (((x : Nat) : Int) == 0) = false := by simpa using h0
    refine ⟨ciT m bx mx pl r, h3, by omega, e4, cv_app c e4, ?_⟩
    (refine AC_begin (fun _ _ => Tryz.call19 _ _) Tryz.func19 rfl Tryz.ntmps19 Tryz.results19 (fun hwf => ?_); simp only [List.length_cons, List.length_nil, Nat.reduceAdd, Nat.reduceSub, List.replicate, List.cons_append, List.nil_append])
    (refine sW @hb (And.intro @c1 (And.intro @c2 (And.intro @ct @c3))) ?_)
    refine ret_full (by first | exact .inr rfl | exact .inl rfl) hlen ?_
    simp (maxSteps := 1000000) (disch := first | omega | rfl | decide | (simp only [List.length_cons, List.length_nil, List.length_append, LV] <;> omega)) only [go_sem, Nat.reduceAdd, Int.reduceAdd, Int.reduceSub, Int.reduceMul, Bool.not_true, Bool.not_false]
    try rfl

def eblF (s : Nat → UInt8) (k : Nat) : Nat → UInt8 := upd s 0 (s 0 + UInt8.ofNat k)
def elF (s : Nat → UInt8) : Nat → UInt8 := fun q => eblF s (q / 16) (q % 16)
theorem eblF_zero (s : Nat → UInt8) : eblF s 0 = s := by
  unfold eblF; rw [show s 0 + UInt8.ofNat 0 = s 0 from UInt8.add_zero _]; funext j; unfold upd; split <;> first | (rename_i h; rw [h]) | rfl
theorem eblF_next (s : Nat → UInt8) (k : Nat) : upd (eblF s k) 0 (eblF s k 0 + 1) = eblF s (k + 1) := by
  have e : eblF s k 0 = s 0 + UInt8.ofNat k := by unfold eblF upd; rw [if_pos rfl]
  rw [e, UInt8.add_assoc, show UInt8.ofNat k + 1 = UInt8.ofNat (k + 1) from (UInt8.ofNat_add k 1).symm]
  unfold eblF
  rw [upd_upd]
theorem elF_snoc (s : Nat → UInt8) (k : Nat) : Bs (k * 16) (elF s) ++ Bs 16 (eblF s k) = Bs ((k + 1) * 16) (elF s) := by
  rw [show (k + 1) * 16 = k * 16 + 16 by omega]
  exact Bs_snoc16 fun t ht => by unfold elF; rw [show (k * 16 + t) / 16 = k by omega, show (k * 16 + t) % 16 = t by omega]
structure EaD where
  M : List Blk
  b : Nat
attribute [local irreducible] eblF elF
set_option maxHeartbeats 8000000 in
theorem drEca_op {h : List Blk} {cv : Value} (c : Cv h cv) : ∃ (m : Int) (bx mx pl y f : Nat → UInt8) (r : Int) (n b : Nat) (H : List Blk), (-1 ≤ r ∧ r ≤ 1000) ∧ n ≤ 101 ∧ H[b]? = some ⟨Bs (n * 16) f, true⟩ ∧ (∃ A, H = h ++ A) ∧ Cv H cv ∧ AC Tryz.prog 12 [cv] h (.tuple #[.agg (Ci m bx mx pl r).toArray, .agg (Bs 16 y).toArray, sl b 0 n 16]) H := by
  obtain ⟨h1, s1, e1, c1⟩ := from_aft (c.app [⟨Ci 0 zeroF zeroF zeroF 0, true⟩, ⟨Bs 16 zeroF, true⟩])
  have hlA : (h ++ [(⟨Ci 0 zeroF zeroF zeroF 0, true⟩ : Blk), ⟨Bs 16 zeroF, true⟩]).length = h.length + 2 := by simp
  rw [hlA] at s1 c1
  have hl1 := s1.lt
  have hR0 : (h1)[h.length]? = some ⟨Ci 0 zeroF zeroF zeroF 0, true⟩ := by obtain ⟨L, rfl⟩ := e1; simp
  have hO0 : (h1)[h.length + 1]? = some ⟨Bs 16 zeroF, true⟩ := by obtain ⟨L, rfl⟩ := e1; simp
  have v1 : Cv h1 cv := cv_app c (app_more e1)
  obtain ⟨m, bx, mx, pl, y, s, r, h2, hr, e2, v2, c2⟩ := three_op v1
  have a2 : Aft h1 h2 (h.length + 2) cv := by obtain ⟨L, rfl⟩ := e2; exact s1.more L
  have hl2 : h1.length ≤ h2.length := a2.len
  have a3 := a2.src.more [⟨Ci m bx mx pl r, true⟩, ⟨Bs 16 y, true⟩, ⟨Bs 16 s, true⟩, ⟨[], true⟩]
  obtain ⟨w, h4, hw, a4, c4⟩ := pickL_aft a3.src [.int .i64 0, .int .i64 1, .int .i64 2, .int .i64 5, .int .i64 101] (n := 5) rfl rfl (by omega) (by omega)
  obtain ⟨n, rfl, hn⟩ : ∃ n : Nat, w = n ∧ n ≤ 101 := by
    obtain ⟨i, hi, e⟩ := hw
    match i, hi, e with
    | 0, _, e => cases e; exact ⟨0, rfl, by omega⟩
    | 1, _, e => cases e; exact ⟨1, rfl, by omega⟩
    | 2, _, e => cases e; exact ⟨2, rfl, by omega⟩
    | 3, _, e => cases e; exact ⟨5, rfl, by omega⟩
    | 4, _, e => cases e; exact ⟨101, rfl, by omega⟩
    | n + 5, h, _ => exact absurd h (by omega)
  have lM : (h2 ++ ([⟨Ci m bx mx pl r, true⟩, ⟨Bs 16 y, true⟩, ⟨Bs 16 s, true⟩, ⟨[], true⟩] : List Blk)).length = h2.length + 4 := by simp
  have hl4 := a4.len
  have A4 := (a2.trans a3).trans a4
  simp only [List.length_append, List.length_cons, List.length_nil, List.append_assoc, List.cons_append, List.nil_append, Nat.zero_add, Nat.reduceAdd] at c4
  have kc := a4.keep h2.length ⟨Ci m bx mx pl r, true⟩ (by omega) (by simp)
  have ky := a4.keep (h2.length + 1) ⟨Bs 16 y, true⟩ (by omega) (by simp)
  have ks := a4.keep (h2.length + 2) ⟨Bs 16 s, true⟩ (by omega) (by simp)
  have kl := a4.keep (h2.length + 3) ⟨[], true⟩ (by omega) (by simp)
  have hR4 := A4.keep _ _ (by omega) hR0
  have hO4' := A4.keep _ _ (by omega) hO0
  obtain ⟨st, e0, hI, hRt⟩ := seq_ex (S := EaD) (n := n)
    (I := fun k t => t.M[t.b]? = some ⟨Bs (k * 16) (elF s), true⟩ ∧ t.M[h2.length + 2]? = some ⟨Bs 16 (eblF s k), true⟩ ∧ (t.M[h2.length]? = some ⟨Ci m bx mx pl r, true⟩ ∧ t.M[h2.length + 1]? = some ⟨Bs 16 y, true⟩) ∧ (t.M[h.length]? = some ⟨Ci 0 zeroF zeroF zeroF 0, true⟩ ∧ t.M[h.length + 1]? = some ⟨Bs 16 zeroF, true⟩) ∧ Aft h1 t.M (h.length + 2) cv ∧ h2.length + 3 ≤ t.b)
    (R := fun k t u => t.M[t.b]? = some ⟨Bs (k * 16) (elF s), true⟩ ∧ t.M[h2.length + 2]? = some ⟨Bs 16 (eblF s k), true⟩ ∧ t.b ≠ h2.length + 2 ∧ u = ⟨(t.M.set t.b dead ++ ([⟨Bs 16 (eblF s k), true⟩, ⟨Bs ((k + 1) * 16) (elF s), true⟩] : List Blk)).set (h2.length + 2) ⟨Bs 16 (eblF s (k + 1)), true⟩, t.M.length + 1⟩)
    ⟨h4, h2.length + 3⟩ ⟨by show h4[h2.length + 3]? = _; rw [kl, Nat.zero_mul]; rfl, by show h4[h2.length + 2]? = _; rw [ks, eblF_zero], ⟨kc, ky⟩, ⟨hR4, hO4'⟩, A4, Nat.le_refl _⟩ (fun k hk t0 ⟨i1, i2, ⟨i3, i4⟩, ⟨i5, i6⟩, i7, i8⟩ => by
      have lb := blt i1
      have hS := i7.set s1 (i := t0.b) (by omega) dead
      have hM := hS.trans (hS.src.more [⟨Bs 16 (eblF s k), true⟩, ⟨Bs ((k + 1) * 16) (elF s), true⟩])
      have hN := hM.set s1 (i := h2.length + 2) (by omega) ⟨Bs 16 (eblF s (k + 1)), true⟩
      have j2 := look_old (set_at (x := dead) i2 (show t0.b ≠ h2.length + 2 by omega)) [⟨Bs 16 (eblF s k), true⟩, ⟨Bs ((k + 1) * 16) (elF s), true⟩]
      have up : ∀ (q : Nat) (x : Blk), q ≠ t0.b → q ≠ h2.length + 2 → t0.M[q]? = some x → ((t0.M.set t0.b dead ++ ([⟨Bs 16 (eblF s k), true⟩, ⟨Bs ((k + 1) * 16) (elF s), true⟩] : List Blk)).set (h2.length + 2) ⟨Bs 16 (eblF s (k + 1)), true⟩)[q]? = some x := fun q x h1 h2 hx => set_at (look_old (set_at hx (Ne.symm h1)) _) (Ne.symm h2)
      refine ⟨_, ⟨?_, look_set (blt j2), ⟨up _ _ (by omega) (by omega) i3, up _ _ (by omega) (by omega) i4⟩, ⟨up _ _ (by omega) (by omega) i5, up _ _ (by omega) (by omega) i6⟩, hN, ?_⟩, i1, i2, by omega, rfl⟩
      · show ((t0.M.set t0.b dead ++ [_, _]).set (h2.length + 2) _)[t0.M.length + 1]? = _
        refine set_at ?_ (by omega)
        rw [List.getElem?_append_right (by simp), List.length_set]
        simp
      · show h2.length + 3 ≤ t0.M.length + 1
        omega)
  obtain ⟨f1, f2, ⟨f3, f4⟩, ⟨hR3, hO3⟩, f7, f8⟩ := hI n (Nat.le_refl _)
  obtain ⟨Mq, hMq⟩ : ∃ Mq, Mq = (st n).M := ⟨_, rfl⟩
  obtain ⟨bq, hbq⟩ : ∃ bq, bq = (st n).b := ⟨_, rfl⟩
  rw [← hMq] at f1 f2 f3 f4 hR3 hO3 f7
  rw [← hbq] at f1 f8
  have hlq := f7.len
  have hO4 := set_at (x := ⟨Ci m bx mx pl r, true⟩) hO3 (show h.length ≠ h.length + 1 by omega)
  have hR5 := set_at (x := ⟨Bs 16 y, true⟩) (look_set (x := ⟨Ci m bx mx pl r, true⟩) (blt hR3)) (show h.length + 1 ≠ h.length by omega)
  have q0 := set_at (x := dead) f3 (show h.length ≠ h2.length by omega)
  have q1 := set_at (x := dead) f4 (show h.length ≠ h2.length + 1 by omega)
  have p0 := look_set (x := dead) (blt hR3)
  have hlen : h.length ≤ Mq.length := by omega
  have e : ∃ L, (Mq.set h.length ⟨Ci m bx mx pl r, true⟩).set (h.length + 1) ⟨Bs 16 y, true⟩ = h ++ L := setX (setX (f7.app h (by omega) (app_more e1)) (Nat.le_refl _) _) (by omega) _
  have g1 := set_at (x := ⟨Bs 16 y, true⟩) (set_at (x := ⟨Ci m bx mx pl r, true⟩) f1 (show h.length ≠ bq by omega)) (show h.length + 1 ≠ bq by omega)
  refine ⟨m, bx, mx, pl, y, elF s, r, n, bq, _, hr, hn, g1, e, cv_app c e, ?_⟩
  clear a2 a3 a4 A4 f7
  (refine AC_begin (fun _ _ => Tryz.call12 _ _) Tryz.func12 rfl Tryz.ntmps12 Tryz.results12 (fun hwf => ?_); simp only [List.length_cons, List.length_nil, Nat.reduceAdd, Nat.reduceSub, List.replicate, List.cons_append, List.nil_append])
  (refine sW (And.intro @Ci_stC @Ci_splice_all) (And.intro @c1 (And.intro @c2 @c4)) ?_)
  refine WA_forH (fun k => [(9, sl (st k).b 0 k 16), (10, .int .i64 ((n - k : Nat))), (23, J), (24, J), (25, J), (26, J), (27, J), (28, J), (29, J), (30, J), (31, J), (32, J), (33, J), (34, J)]) (fun k => (st k).M) (n) ?_ ?_ ?_ <;> (try simp only [patT_cons, patT_nil, patL_cons, patL_nil, list_set_zero, list_set_succ, blk_set_zero, blk_set_succ])
  · have z0 : (st 0).M = h4 := by rw [e0]
    have z1 : (st 0).b = h2.length + 3 := by rw [e0]
    have l4 : h.length ≤ h4.length := by omega
    rw [z0, z1]
    (exact sA0)
  · intro k hk
    obtain ⟨i1, i2, i3, e⟩ := hRt k hk
    have z1 := (hI (k + 1) hk).2.2.2.2.1.len
    have q3 : h.length ≤ (st (k + 1)).M.length := by omega
    rw [e] at q3 ⊢
    clear z1
    have j2 := look_old (set_at (x := dead) i2 i3) [⟨Bs 16 (eblF s k), true⟩, ⟨Bs ((k + 1) * 16) (elF s), true⟩]
    (refine sN (And.intro (decide_eq_true (show 0 < n - k by omega)) (And.intro @i2 (And.intro (look_old i2) (And.intro (look_old i1) (And.intro (set_app (blt i1)) (And.intro @lit1 (And.intro @elF_snoc (And.intro @eblF_next @j2)))))))) ?_)
    (exact sA0)
  · rw [← hMq, ← hbq]
    (refine sN @Nat.sub_self ?_)
    first | refine WA_seq (WA_rb (id := 9) [4] (SubM.set (SubM.refl _) h.length) mixedOk ?_) | refine WA_rb (id := 9) [4] (SubM.set (SubM.refl _) h.length) mixedOk ?_
    simp only [List.size_toArray, List.length_cons, List.length_nil]
    refine RB_take false [2] 5 (by rfl) (by kernel_rfl) (by decide) (by decide +kernel) ?_
    (refine sU (And.intro @Ci_stC (And.intro @Ci_splice_all (And.intro @hR3 (And.intro @hO3 (And.intro @hO4 (And.intro @q0 (And.intro @q1 @p0))))))) ?_)
    refine RB_take true [0, 1] 3 (by rfl) (by kernel_rfl) (by decide) (by decide +kernel) ?_
    (refine sU (And.intro @Ci_stC (And.intro @Ci_splice_all (And.intro @hR3 (And.intro @hO3 (And.intro @hO4 (And.intro @q0 (And.intro @q1 @p0))))))) ?_)
    refine RB_keep 3 _ (by rfl) (by decide +kernel) (by simp (maxSteps := 1000000) (disch := first | omega | rfl | decide | (simp only [List.length_cons, List.length_nil, List.length_append, Bs_length] <;> omega)) only [go_sem, Nat.reduceAdd, Ci_stC, Ci_splice_all, hR3, hO3, hO4, q0, q1, p0]) ?_
    (refine sU (And.intro @Ci_stC (And.intro @Ci_splice_all (And.intro @hR3 (And.intro @hO3 (And.intro @hO4 (And.intro @q0 (And.intro @q1 @p0))))))) ?_)
    refine RB_exec 4 _ (by rfl) (by decide +kernel) (by decide +kernel) ?_
    (refine sU (And.intro @Ci_stC (And.intro @Ci_splice_all (And.intro @hR3 (And.intro @hO3 (And.intro @hO4 (And.intro @q0 (And.intro @q1 @p0))))))) ?_)
    refine RB_take false [5] 0 (by rfl) (by kernel_rfl) (by decide) (by decide +kernel) ?_
    (refine sU (And.intro @Ci_stC (And.intro @Ci_splice_all (And.intro @hR3 (And.intro @hO3 (And.intro @hO4 (And.intro @q0 (And.intro @q1 @p0))))))) ?_)
    refine RB_done (by decide +kernel) ?_
    (refine sU (And.intro @Ci_stC (And.intro @Ci_splice_all (And.intro @hR3 (And.intro @hO3 (And.intro @hO4 (And.intro @q0 (And.intro @q1 @p0))))))) ?_)
    (refine sN0 ?_)
    refine ret_full (by first | exact .inr rfl | exact .inl rfl) (by simp only [List.length_set]; omega) ?_
    simp (maxSteps := 1000000) (disch := first | omega | rfl | decide | (simp only [List.length_cons, List.length_nil, List.length_append, LV] <;> omega)) only [go_sem, Nat.reduceAdd, Int.reduceAdd, Int.reduceSub, Int.reduceMul, Bool.not_true, Bool.not_false, hR5, look_set (blt hO4)]
    try rfl

end Go.Proofs.YtkdpjkpedklbpaaGreatDoor
/- The key before. -/
namespace Go.Proofs.YtkdpjkpedklbpaaGreatDoor
set_option linter.unusedSimpArgs false
set_option linter.unusedVariables false
set_option maxRecDepth 20000
set_option maxHeartbeats 1000000
open Go.Abs

/-- The key before, after j steps from the last byte on. -/
def kbP (bx k : Nat → UInt8) : Nat → Nat → UInt8
  | 0 => k
  | j + 1 => upd (kbP bx k j) (15 - j) (kbP bx k j (15 - j) ^^^ bx (kbP bx k j (14 - j)).toNat)
def kbF (bx k : Nat → UInt8) (rb : UInt8) : Nat → UInt8 := upd (kbP bx k 15) 0 (kbP bx k 15 0 ^^^ bx (kbP bx k 15 15 ^^^ rb).toNat)
def kbS (bx k : Nat → UInt8) (rb : UInt8) (j : Nat) : Nat → UInt8 := if j = 16 then kbF bx k rb else kbP bx k j
theorem kbS_le (bx k : Nat → UInt8) (rb : UInt8) {j : Nat} (h : j < 16) : kbS bx k rb j = kbP bx k j := if_neg (by omega)
theorem kbS_all (bx k : Nat → UInt8) (rb : UInt8) : kbS bx k rb 16 = kbF bx k rb := if_pos rfl
def downI (k : Nat) : Int := 15 - (k : Int)
theorem downI_zero : downI 0 = 15 := rfl
theorem downI_nat {j : Nat} (h : j ≤ 15) : downI j = ((15 - j : Nat) : Int) := by unfold downI; omega

theorem kbS_ac (bx y : Nat → UInt8) (r : Int) (h : List Blk) : AC Tryz.prog 35 [.agg (Bs 256 bx).toArray, .agg (Bs 16 y).toArray, .int .i64 r] h (.agg (Bs 16 (kbF bx y (toB r))).toArray) h := by
  (refine AC_begin (fun _ _ => Tryz.call35 _ _) Tryz.func35 rfl Tryz.ntmps35 Tryz.results35 (fun hwf => ?_); simp only [List.length_cons, List.length_nil, Nat.reduceAdd, Nat.reduceSub, List.replicate, List.cons_append, List.nil_append])
  (refine sN0 ?_)
  refine WA_forP (fun k => [(7, .int .i64 (downI k)), (8, J), (9, J), (10, J), (11, J), (12, J), (13, J), (14, J), (15, J), (16, J), (17, J), (18, J), (19, J), (20, J), (21, J), (22, J), (23, J), (24, J), (25, J), (26, J), (27, J), (28, J), (29, J), (30, J), (31, J), (32, J)]) (fun k => [(1, ⟨Bs 16 (kbS bx y (toB r) k), true⟩)]) (16) ?_ ?_ ?_ <;> (try simp only [patT_cons, patT_nil, patL_cons, patL_nil, list_set_zero, list_set_succ, blk_set_zero, blk_set_succ])
  · rw [kbS_le bx y (toB r) (by omega : 0 < 16), downI_zero, show kbP bx y 0 = y from rfl]
    (exact sS0)
  · intro j hj
    rcases Nat.lt_or_ge j 15 with hj2 | hj2
    · have h15 : 15 - j ≠ 0 := by omega
      have hb : (15 - j == 0) = false := by simpa using h15
      have hx := u8_lt (kbP bx y j (14 - j))
      rw [downI_nat (j := j) (by omega), kbS_le bx y (toB r) hj]
      (repeat (first | ((first | (refine And.intro ?_ ?_; focus exact PLA) | refine WA_seq (WA_region ?_) | refine WA_region ?_ | refine WA_exit ?_); try simp (maxSteps := 1000000) (disch := first | omega | rfl | decide | (simp only [List.length_cons, List.length_nil, List.length_append, LV] <;> omega)) only [go_sem, Nat.reduceAdd, Int.reduceAdd, Int.reduceSub, Int.reduceMul, Bool.not_true, Bool.not_false, show (15 - j + 15) % 16 = 14 - j by omega, hb, show upd (kbP bx y j) (15 - j) (kbP bx y j (15 - j) ^^^ bx (kbP bx y j (14 - j)).toNat) = kbP bx y (j + 1) from rfl]) | (refine (WA_rb (id := 7) [9] (SubM.refl _) mixedOk ?_); simp only [List.size_toArray, List.length_cons, List.length_nil]; (repeat (first | ((first | (refine And.intro ?_ ?_; focus exact PLA) | refine RB_take false [0, 1, 2, 4, 5] 5 (by rfl) (by kernel_rfl) (by decide) (by decide +kernel) ?_ | refine RB_take true [3, 6] 3 (by rfl) (by kernel_rfl) (by decide) (by decide +kernel) ?_ | refine RB_take false [7, 8] 1 (by rfl) (by kernel_rfl) (by decide) (by decide +kernel) ?_ | refine RB_exec 9 _ (by rfl) (by decide +kernel) (by decide +kernel) ?_ | refine RB_done (by decide +kernel) ?_); try simp (maxSteps := 1000000) (disch := first | omega | rfl | decide | (simp only [List.length_cons, List.length_nil, List.length_append, LV] <;> omega)) only [go_sem, Nat.reduceAdd, Int.reduceAdd, Int.reduceSub, Int.reduceMul, Bool.not_true, Bool.not_false, show (15 - j + 15) % 16 = 14 - j by omega, hb, show upd (kbP bx y j) (15 - j) (kbP bx y j (15 - j) ^^^ bx (kbP bx y j (14 - j)).toNat) = kbP bx y (j + 1) from rfl])))) | refine WA_seq ?_ | refine WA_block ?_ | (refine WA_skip ?_; try simp only [go_sem]) | (refine WA_ret ?_; try simp only [go_sem]) | refine WA_ct rfl ?_ | refine WA_cf rfl ?_))
      rw [kbS_le bx y (toB r) (by omega : j + 1 < 16), downI_nat (j := j + 1) (by omega)]
      (exact sS0)
    · have hj3 : j = 15 := by omega
      subst hj3
      have hx := u8_lt (kbP bx y 15 15 ^^^ toB r)
      rw [show downI 15 = ((0 : Nat) : Int) from rfl, kbS_le bx y (toB r) (by omega : 15 < 16)]
      (repeat (first | ((first | (refine And.intro ?_ ?_; focus exact PLA) | refine WA_seq (WA_region ?_) | refine WA_region ?_ | refine WA_exit ?_); try simp (maxSteps := 1000000) (disch := first | omega | rfl | decide | (simp only [List.length_cons, List.length_nil, List.length_append, LV] <;> omega)) only [go_sem, Nat.reduceAdd, Int.reduceAdd, Int.reduceSub, Int.reduceMul, Bool.not_true, Bool.not_false, show Int.tmod 15 16 = 15 from rfl, show (15 : Int).toNat = 15 from rfl, show (0 + 15) % 16 = 15 from rfl, beq_self_eq_true, show upd (kbP bx y 15) 0 (kbP bx y 15 0 ^^^ bx (kbP bx y 15 15 ^^^ toB r).toNat) = kbF bx y (toB r) from rfl]) | (refine (WA_rb (id := 7) [9] (SubM.refl _) mixedOk ?_); simp only [List.size_toArray, List.length_cons, List.length_nil]; (repeat (first | ((first | (refine And.intro ?_ ?_; focus exact PLA) | refine RB_take false [0, 1, 2, 4, 5] 5 (by rfl) (by kernel_rfl) (by decide) (by decide +kernel) ?_ | refine RB_take true [3, 6] 3 (by rfl) (by kernel_rfl) (by decide) (by decide +kernel) ?_ | refine RB_take false [7, 8] 1 (by rfl) (by kernel_rfl) (by decide) (by decide +kernel) ?_ | refine RB_exec 9 _ (by rfl) (by decide +kernel) (by decide +kernel) ?_ | refine RB_done (by decide +kernel) ?_); try simp (maxSteps := 1000000) (disch := first | omega | rfl | decide | (simp only [List.length_cons, List.length_nil, List.length_append, LV] <;> omega)) only [go_sem, Nat.reduceAdd, Int.reduceAdd, Int.reduceSub, Int.reduceMul, Bool.not_true, Bool.not_false, show Int.tmod 15 16 = 15 from rfl, show (15 : Int).toNat = 15 from rfl, show (0 + 15) % 16 = 15 from rfl, beq_self_eq_true, show upd (kbP bx y 15) 0 (kbP bx y 15 0 ^^^ bx (kbP bx y 15 15 ^^^ toB r).toNat) = kbF bx y (toB r) from rfl])))) | refine WA_seq ?_ | refine WA_block ?_ | (refine WA_skip ?_; try simp only [go_sem]) | (refine WA_ret ?_; try simp only [go_sem]) | refine WA_ct rfl ?_ | refine WA_cf rfl ?_))
      rw [show kbS bx y (toB r) (15 + 1) = kbF bx y (toB r) from kbS_all bx y (toB r), show downI (15 + 1) = -1 from rfl]
      (exact sS (show ((0 : Nat) : Int) - 1 = -1 from rfl))
  · rw [kbS_all, show downI 16 = -1 from rfl]
    (refine sN0 ?_)
    (exact sR0)

theorem kbI_ac {h : List Blk} {be : Nat} {bx ib pl ip : Nat → UInt8} {v4 v5 : Value} {rr : Int} {re : Bool} (he : h[be]? = some ⟨En bx ib pl ip v4 v5 rr, re⟩) (y : Nat → UInt8) (r : Int) :
    AC Tryz.prog 31 [pt be 0, .agg (Bs 16 y).toArray, .int .i64 r] h (.agg (Bs 16 (kbF bx y (toB r))).toArray) h := by
  have hbe := blt he
  (refine AC_begin (fun _ _ => Tryz.call31 _ _) Tryz.func31 rfl Tryz.ntmps31 Tryz.results31 (fun hwf => ?_); simp only [List.length_cons, List.length_nil, Nat.reduceAdd, Nat.reduceSub, List.replicate, List.cons_append, List.nil_append])
  (refine sN0 ?_)
  refine WA_forP (fun k => [(7, .int .i64 (downI k)), (8, J), (9, J), (10, J), (11, J), (12, J), (13, J), (14, J), (15, J), (16, J), (17, J), (18, J), (19, J), (20, J), (21, J), (22, J), (23, J), (24, J), (25, J)]) (fun k => [(0, ⟨Bs 16 (kbP bx y k), true⟩)]) (15) ?_ ?_ ?_ <;> (try simp only [patT_cons, patT_nil, patL_cons, patL_nil, list_set_zero, list_set_succ, blk_set_zero, blk_set_succ])
  · rw [downI_zero, show kbP bx y 0 = y from rfl]
    (exact sS0)
  · intro j hj
    have hx := u8_lt (kbP bx y j (14 - j))
    rw [downI_nat (j := j) (by omega)]
    (repeat (first | ((first | (refine And.intro ?_ ?_; focus exact PLA) | refine WA_seq (WA_region ?_) | refine WA_region ?_ | refine WA_exit ?_); try simp (maxSteps := 1000000) (disch := first | omega | rfl | decide | (simp only [List.length_cons, List.length_nil, List.length_append, LV] <;> omega)) only [go_sem, Nat.reduceAdd, Int.reduceAdd, Int.reduceSub, Int.reduceMul, Bool.not_true, Bool.not_false, look_old he, show 15 - j - 1 = 14 - j by omega, show upd (kbP bx y j) (15 - j) (kbP bx y j (15 - j) ^^^ bx (kbP bx y j (14 - j)).toNat) = kbP bx y (j + 1) from rfl]) | (refine (WA_rb (id := 4) [14] (SubM.refl _) mixedOk ?_); simp only [List.size_toArray, List.length_cons, List.length_nil]; (repeat (first | ((first | (refine And.intro ?_ ?_; focus exact PLA) | refine RB_take false [0, 1, 3, 4, 5, 6, 8, 9] 7 (by rfl) (by kernel_rfl) (by decide) (by decide +kernel) ?_ | refine RB_take true [2, 7] 5 (by rfl) (by kernel_rfl) (by decide) (by decide +kernel) ?_ | refine RB_take false [10] 4 (by rfl) (by kernel_rfl) (by decide) (by decide +kernel) ?_ | refine RB_take true [11] 3 (by rfl) (by kernel_rfl) (by decide) (by decide +kernel) ?_ | refine RB_take false [12, 13] 1 (by rfl) (by kernel_rfl) (by decide) (by decide +kernel) ?_ | refine RB_exec 14 _ (by rfl) (by decide +kernel) (by decide +kernel) ?_ | refine RB_done (by decide +kernel) ?_); try simp (maxSteps := 1000000) (disch := first | omega | rfl | decide | (simp only [List.length_cons, List.length_nil, List.length_append, LV] <;> omega)) only [go_sem, Nat.reduceAdd, Int.reduceAdd, Int.reduceSub, Int.reduceMul, Bool.not_true, Bool.not_false, look_old he, show 15 - j - 1 = 14 - j by omega, show upd (kbP bx y j) (15 - j) (kbP bx y j (15 - j) ^^^ bx (kbP bx y j (14 - j)).toNat) = kbP bx y (j + 1) from rfl])))) | refine WA_seq ?_ | refine WA_block ?_ | (refine WA_skip ?_; try simp only [go_sem]) | (refine WA_ret ?_; try simp only [go_sem]) | refine WA_ct rfl ?_ | refine WA_cf rfl ?_))
    rw [downI_nat (j := j + 1) (by omega), show 15 - (j + 1) = 14 - j by omega]
    (exact sS0)
  · have hx := u8_lt (kbP bx y 15 15 ^^^ toB r)
    rw [show downI 15 = ((0 : Nat) : Int) from rfl]
    (repeat (first | ((first | (refine And.intro ?_ ?_; focus exact PLA) | refine WA_seq (WA_region ?_) | refine WA_region ?_ | refine WA_exit ?_); try simp (maxSteps := 1000000) (disch := first | omega | rfl | decide | (simp only [List.length_cons, List.length_nil, List.length_append, LV] <;> omega)) only [go_sem, Nat.reduceAdd, Int.reduceAdd, Int.reduceSub, Int.reduceMul, Bool.not_true, Bool.not_false, look_old he, show upd (kbP bx y 15) 0 (kbP bx y 15 0 ^^^ bx (kbP bx y 15 15 ^^^ toB r).toNat) = kbF bx y (toB r) from rfl]) | (refine (WA_rb (id := 5) [14] (SubM.refl _) mixedOk ?_); simp only [List.size_toArray, List.length_cons, List.length_nil]; (repeat (first | ((first | (refine And.intro ?_ ?_; focus exact PLA) | refine RB_take false [0, 2, 3, 5, 6, 8, 9] 8 (by rfl) (by kernel_rfl) (by decide) (by decide +kernel) ?_ | refine RB_take true [1, 4] 6 (by rfl) (by kernel_rfl) (by decide) (by decide +kernel) ?_ | refine RB_take false [7, 10] 4 (by rfl) (by kernel_rfl) (by decide) (by decide +kernel) ?_ | refine RB_take true [11] 3 (by rfl) (by kernel_rfl) (by decide) (by decide +kernel) ?_ | refine RB_take false [12, 13] 1 (by rfl) (by kernel_rfl) (by decide) (by decide +kernel) ?_ | refine RB_exec 14 _ (by rfl) (by decide +kernel) (by decide +kernel) ?_ | refine RB_done (by decide +kernel) ?_); try simp (maxSteps := 1000000) (disch := first | omega | rfl | decide | (simp only [List.length_cons, List.length_nil, List.length_append, LV] <;> omega)) only [go_sem, Nat.reduceAdd, Int.reduceAdd, Int.reduceSub, Int.reduceMul, Bool.not_true, Bool.not_false, look_old he, show upd (kbP bx y 15) 0 (kbP bx y 15 0 ^^^ bx (kbP bx y 15 15 ^^^ toB r).toNat) = kbF bx y (toB r) from rfl])))) | refine WA_seq ?_ | refine WA_block ?_ | (refine WA_skip ?_; try simp only [go_sem]) | (refine WA_ret ?_; try simp only [go_sem]) | refine WA_ct rfl ?_ | refine WA_cf rfl ?_))
    (exact sR0)

def kbC (m : Int) (bx mx pl : Nat → UInt8) (r r' : Int) : Int := cond (cipB m bx mx pl r) (cond (inR r' 1 20) 0 2) 1
theorem kbOS_ac (m r : Int) (bx mx pl k : Nat → UInt8) (r' : Int) (h : List Blk) :
    AC Tryz.prog 11 [.agg (Ci m bx mx pl r).toArray, .agg (Bs 16 k).toArray, .int .i64 r'] h (.tuple #[.agg (Bs 16 (cond (cipB m bx mx pl r && inR r' 1 20) (kbF bx k (toB r')) zeroF)).toArray, .int .i64 (kbC m bx mx pl r r')]) h := by
  have hi := inS_ac r' 1 20
  cases hc : cipB m bx mx pl r
  · (refine AC_begin (fun _ _ => Tryz.call11 _ _) Tryz.func11 rfl Tryz.ntmps11 Tryz.results11 (fun hwf => ?_); simp only [List.length_cons, List.length_nil, Nat.reduceAdd, Nat.reduceSub, List.replicate, List.cons_append, List.nil_append])
    (repeat (first | ((first | (refine And.intro ?_ ?_; focus exact PLA) | ((first | with_reducible apply callB_i | with_reducible apply callK_intro | with_reducible apply callQ_i); (focus (first | assumption | (with_reducible apply cipS_ac <;> (first | assumption | rfl | (simp (disch := omega) only [go_sem]; first | done | rfl) | omega | decide | (simp; done))))); (try exact WP_au)) | refine WA_seq (WA_region ?_) | refine WA_region ?_ | refine WA_exit ?_); try simp (maxSteps := 1000000) (disch := first | omega | rfl | decide | (simp only [List.length_cons, List.length_nil, List.length_append, LV] <;> omega)) only [go_sem, Nat.reduceAdd, Int.reduceAdd, Int.reduceSub, Int.reduceMul, Bool.not_true, Bool.not_false, hc, Bool.not_false]) | refine WA_seq ?_ | refine WA_block ?_ | (refine WA_skip ?_; try simp only [go_sem]) | (refine WA_ret ?_; try simp only [go_sem]) | refine WA_ct rfl ?_ | refine WA_cf rfl ?_))
    ((first | refine ret_nA ?_ | refine ret_sA ?_ | refine ret_fA ?_); simp (maxSteps := 1000000) (disch := first | omega | rfl | decide | (simp only [List.length_cons, List.length_nil, List.length_append, LV] <;> omega)) only [go_sem, Nat.reduceAdd, Int.reduceAdd, Int.reduceSub, Int.reduceMul, Bool.not_true, Bool.not_false, kbC, hc, cond_false, zeroF, Bool.false_and]; try rfl)
  · cases hr : inR r' 1 20 <;> rw [hr] at hi
    · (refine AC_begin (fun _ _ => Tryz.call11 _ _) Tryz.func11 rfl Tryz.ntmps11 Tryz.results11 (fun hwf => ?_); simp only [List.length_cons, List.length_nil, Nat.reduceAdd, Nat.reduceSub, List.replicate, List.cons_append, List.nil_append])
      (repeat (first | ((first | (refine And.intro ?_ ?_; focus exact PLA) | ((first | with_reducible apply callB_i | with_reducible apply callK_intro | with_reducible apply callQ_i); (focus (first | assumption | ((first | with_reducible apply cipS_ac | with_reducible apply hi) <;> (first | assumption | rfl | (simp (disch := omega) only [go_sem]; first | done | rfl) | omega | decide | (simp; done))))); (try exact WP_au)) | refine WA_seq (WA_region ?_) | refine WA_region ?_ | refine WA_exit ?_); try simp (maxSteps := 1000000) (disch := first | omega | rfl | decide | (simp only [List.length_cons, List.length_nil, List.length_append, LV] <;> omega)) only [go_sem, Nat.reduceAdd, Int.reduceAdd, Int.reduceSub, Int.reduceMul, Bool.not_true, Bool.not_false, hc, Bool.not_true, Bool.not_false]) | refine WA_seq ?_ | refine WA_block ?_ | (refine WA_skip ?_; try simp only [go_sem]) | (refine WA_ret ?_; try simp only [go_sem]) | refine WA_ct rfl ?_ | refine WA_cf rfl ?_))
      ((first | refine ret_nA ?_ | refine ret_sA ?_ | refine ret_fA ?_); simp (maxSteps := 1000000) (disch := first | omega | rfl | decide | (simp only [List.length_cons, List.length_nil, List.length_append, LV] <;> omega)) only [go_sem, Nat.reduceAdd, Int.reduceAdd, Int.reduceSub, Int.reduceMul, Bool.not_true, Bool.not_false, kbC, hc, hr, cond_false, cond_true, zeroF, Bool.and_false]; try rfl)
    · (refine AC_begin (fun _ _ => Tryz.call11 _ _) Tryz.func11 rfl Tryz.ntmps11 Tryz.results11 (fun hwf => ?_); simp only [List.length_cons, List.length_nil, Nat.reduceAdd, Nat.reduceSub, List.replicate, List.cons_append, List.nil_append])
      (repeat (first | ((first | (refine And.intro ?_ ?_; focus exact PLA) | ((first | with_reducible apply callB_i | with_reducible apply callK_intro | with_reducible apply callQ_i); (focus (first | assumption | ((first | with_reducible apply cipS_ac | with_reducible apply hi | with_reducible apply kbS_ac) <;> (first | assumption | rfl | (simp (disch := omega) only [go_sem]; first | done | rfl) | omega | decide | (simp; done))))); (try exact WP_au)) | refine WA_seq (WA_region ?_) | refine WA_region ?_ | refine WA_exit ?_); try simp (maxSteps := 1000000) (disch := first | omega | rfl | decide | (simp only [List.length_cons, List.length_nil, List.length_append, LV] <;> omega)) only [go_sem, Nat.reduceAdd, Int.reduceAdd, Int.reduceSub, Int.reduceMul, Bool.not_true, Bool.not_false, hc, Bool.not_true]) | refine WA_seq ?_ | refine WA_block ?_ | (refine WA_skip ?_; try simp only [go_sem]) | (refine WA_ret ?_; try simp only [go_sem]) | refine WA_ct rfl ?_ | refine WA_cf rfl ?_))
      ((first | refine ret_nA ?_ | refine ret_sA ?_ | refine ret_fA ?_); simp (maxSteps := 1000000) (disch := first | omega | rfl | decide | (simp only [List.length_cons, List.length_nil, List.length_append, LV] <;> omega)) only [go_sem, Nat.reduceAdd, Int.reduceAdd, Int.reduceSub, Int.reduceMul, Bool.not_true, Bool.not_false, kbC, hc, hr, cond_true, Bool.and_self]; try rfl)

theorem kbOI_ac (m r : Int) (bx mx pl k : Nat → UInt8) (r' : Int) (h : List Blk) :
    AC Tryz.prog 9 [.agg (Ci m bx mx pl r).toArray, .agg (Bs 16 k).toArray, .int .i64 r'] h (.tuple #[.agg (Bs 16 (cond (cipB m bx mx pl r && inR r' 1 20) (kbF bx k (toB r')) zeroF)).toArray, .int .i64 (kbC m bx mx pl r r')]) h := by
  have hi := inI_ac r' 1 20
  cases hc : cipB m bx mx pl r
  · (refine AC_begin (fun _ _ => Tryz.call9 _ _) Tryz.func9 rfl Tryz.ntmps9 Tryz.results9 (fun hwf => ?_); simp only [List.length_cons, List.length_nil, Nat.reduceAdd, Nat.reduceSub, List.replicate, List.cons_append, List.nil_append])
    (repeat (first | ((first | (refine And.intro ?_ ?_; focus exact PLA) | ((first | with_reducible apply callB_i | with_reducible apply callK_intro | with_reducible apply callQ_i); (focus (first | assumption | (with_reducible apply cipI_ac <;> (first | assumption | rfl | (simp (disch := omega) only [go_sem]; first | done | rfl) | omega | decide | (simp; done))))); (try exact WP_au)) | refine WA_seq (WA_region ?_) | refine WA_region ?_ | refine WA_exit ?_); try simp (maxSteps := 1000000) (disch := first | omega | rfl | decide | (simp only [List.length_cons, List.length_nil, List.length_append, LV] <;> omega)) only [go_sem, Nat.reduceAdd, Int.reduceAdd, Int.reduceSub, Int.reduceMul, Bool.not_true, Bool.not_false, hc, Bool.not_false]) | refine WA_seq ?_ | refine WA_block ?_ | (refine WA_skip ?_; try simp only [go_sem]) | (refine WA_ret ?_; try simp only [go_sem]) | refine WA_ct rfl ?_ | refine WA_cf rfl ?_))
    ((first | refine ret_nA ?_ | refine ret_sA ?_ | refine ret_fA ?_); simp (maxSteps := 1000000) (disch := first | omega | rfl | decide | (simp only [List.length_cons, List.length_nil, List.length_append, LV] <;> omega)) only [go_sem, Nat.reduceAdd, Int.reduceAdd, Int.reduceSub, Int.reduceMul, Bool.not_true, Bool.not_false, kbC, hc, cond_false, zeroF, Bool.false_and]; try rfl)
  · cases hr : inR r' 1 20 <;> rw [hr] at hi
    · (refine AC_begin (fun _ _ => Tryz.call9 _ _) Tryz.func9 rfl Tryz.ntmps9 Tryz.results9 (fun hwf => ?_); simp only [List.length_cons, List.length_nil, Nat.reduceAdd, Nat.reduceSub, List.replicate, List.cons_append, List.nil_append])
      (repeat (first | ((first | (refine And.intro ?_ ?_; focus exact PLA) | ((first | with_reducible apply callB_i | with_reducible apply callK_intro | with_reducible apply callQ_i); (focus (first | assumption | ((first | with_reducible apply cipI_ac | with_reducible apply hi) <;> (first | assumption | rfl | (simp (disch := omega) only [go_sem]; first | done | rfl) | omega | decide | (simp; done))))); (try exact WP_au)) | refine WA_seq (WA_region ?_) | refine WA_region ?_ | refine WA_exit ?_); try simp (maxSteps := 1000000) (disch := first | omega | rfl | decide | (simp only [List.length_cons, List.length_nil, List.length_append, LV] <;> omega)) only [go_sem, Nat.reduceAdd, Int.reduceAdd, Int.reduceSub, Int.reduceMul, Bool.not_true, Bool.not_false, hc, Bool.not_true, Bool.not_false]) | refine WA_seq ?_ | refine WA_block ?_ | (refine WA_skip ?_; try simp only [go_sem]) | (refine WA_ret ?_; try simp only [go_sem]) | refine WA_ct rfl ?_ | refine WA_cf rfl ?_))
      ((first | refine ret_nA ?_ | refine ret_sA ?_ | refine ret_fA ?_); simp (maxSteps := 1000000) (disch := first | omega | rfl | decide | (simp only [List.length_cons, List.length_nil, List.length_append, LV] <;> omega)) only [go_sem, Nat.reduceAdd, Int.reduceAdd, Int.reduceSub, Int.reduceMul, Bool.not_true, Bool.not_false, kbC, hc, hr, cond_false, cond_true, zeroF, Bool.and_false]; try rfl)
    · obtain ⟨p, rfl, h0, h1, _, _, hp, n, rfl, _, _⟩ := cipB_nat hc
      (refine AC_begin (fun _ _ => Tryz.call9 _ _) Tryz.func9 rfl Tryz.ntmps9 Tryz.results9 (fun hwf => ?_); simp only [List.length_cons, List.length_nil, Nat.reduceAdd, Nat.reduceSub, List.replicate, List.cons_append, List.nil_append])
      (repeat (first | ((first | (refine And.intro ?_ ?_; focus exact PLA) | ((first | with_reducible apply callB_i | with_reducible apply callK_intro | with_reducible apply callQ_i); (focus (first | assumption | ((first | with_reducible apply cipI_ac | with_reducible apply hi | with_reducible apply newEngine_ac h0 h1 _ _ hp | with_reducible apply kbI_ac) <;> (first | assumption | rfl | (simp (disch := omega) only [go_sem]; first | done | rfl) | omega | decide | (simp; done))))); (try exact WP_au)) | refine WA_seq (WA_region ?_) | refine WA_region ?_ | refine WA_exit ?_); try simp (maxSteps := 1000000) (disch := first | omega | rfl | decide | (simp only [List.length_cons, List.length_nil, List.length_append, LV] <;> omega)) only [go_sem, Nat.reduceAdd, Int.reduceAdd, Int.reduceSub, Int.reduceMul, Bool.not_true, Bool.not_false, hc, Bool.not_true]) | (refine (WA_rb (id := 5) [4, 5] (SubM.refl _) mixedOk ?_); simp only [List.size_toArray, List.length_cons, List.length_nil]; (repeat (first | ((first | (refine And.intro ?_ ?_; focus exact PLA) | ((first | with_reducible apply callB_i | with_reducible apply callK_intro | with_reducible apply callQ_i | with_reducible apply callC_i); (focus (first | assumption | ((first | with_reducible apply cipI_ac | with_reducible apply hi | with_reducible apply newEngine_ac h0 h1 _ _ hp | with_reducible apply kbI_ac) <;> (first | assumption | rfl | (simp (disch := omega) only [go_sem]; first | done | rfl) | omega | decide | (simp; done))))); (try (focus (exact NL.mk rfl))); (try exact WP_au)) | refine RB_take false [3] 6 (by rfl) (by kernel_rfl) (by decide) (by decide +kernel) ?_ | refine RB_take true [0, 2] 4 (by rfl) (by kernel_rfl) (by decide) (by decide +kernel) ?_ | refine RB_keepC 1 _ (by rfl) (by decide +kernel) ?_ | refine RB_exec 4 _ (by rfl) (by decide +kernel) (by decide +kernel) ?_ | refine RB_exec 5 _ (by rfl) (by decide +kernel) (by decide +kernel) ?_ | refine RB_take false [6] 0 (by rfl) (by kernel_rfl) (by decide) (by decide +kernel) ?_ | refine RB_done (by decide +kernel) ?_); try simp (maxSteps := 1000000) (disch := first | omega | rfl | decide | (simp only [List.length_cons, List.length_nil, List.length_append, LV] <;> omega)) only [go_sem, Nat.reduceAdd, Int.reduceAdd, Int.reduceSub, Int.reduceMul, Bool.not_true, Bool.not_false, hc, Bool.not_true])))) | refine WA_seq ?_ | refine WA_block ?_ | (refine WA_skip ?_; try simp only [go_sem]) | (refine WA_ret ?_; try simp only [go_sem]) | refine WA_ct rfl ?_ | refine WA_cf rfl ?_))
      ((first | refine ret_nA ?_ | refine ret_sA ?_ | refine ret_fA ?_); simp (maxSteps := 1000000) (disch := first | omega | rfl | decide | (simp only [List.length_cons, List.length_nil, List.length_append, LV] <;> omega)) only [go_sem, Nat.reduceAdd, Int.reduceAdd, Int.reduceSub, Int.reduceMul, Bool.not_true, Bool.not_false, kbC, hc, hr, cond_true, Bool.and_self]; try rfl)

end Go.Proofs.YtkdpjkpedklbpaaGreatDoor
