/- Draws of fields, bytes and numbers. -/
import Derived.Test.YtalbdgkbinndlaaDoorAbsSh
import Derived.Test.YtalbdgkbinndlaaDoorW60
import Derived.Test.YtalbdgkbinndlaaDoorAbsZ
import Derived.Test.YtalbdgkbinndlaaDoorAbsV
namespace Go.Proofs.YtalbdgkbinndlaaDoor
set_option linter.unusedSimpArgs false
set_option linter.unusedVariables false
set_option maxRecDepth 20000
set_option maxHeartbeats 1000000
open Go.Abs

def SrcAt (h : List Blk) (b : Nat) (cv : Value) : Prop := ∃ k, h[b]? = some k ∧ Src h b cv k
/-- What a draw leaves of memory. -/
structure Aft (h h' : List Blk) (b : Nat) (cv : Value) : Prop where
  src : SrcAt h' b cv
  keep : ∀ (i : Nat) (x : Blk), i ≠ b → h[i]? = some x → h'[i]? = some x
  app : ∀ h0 : List Blk, h0.length ≤ b → (∃ L, h = h0 ++ L) → ∃ L, h' = h0 ++ L
  len : h.length ≤ h'.length
theorem SrcAt.lt {h : List Blk} {b : Nat} {cv : Value} (s : SrcAt h b cv) : b < h.length := by obtain ⟨k, hb, _⟩ := s; exact blt hb
theorem SrcAt.more {h : List Blk} {b : Nat} {cv : Value} (s : SrcAt h b cv) (L : List Blk) : Aft h (h ++ L) b cv := by
  obtain ⟨k, hb, hk⟩ := s
  exact ⟨⟨k, look_old hb L, hk.app L⟩, fun _ _ _ hx => look_old hx L, fun h0 _ ⟨A, e⟩ => ⟨A ++ L, by rw [e, List.append_assoc]⟩, by simp⟩
theorem Aft.trans {h h' h'' : List Blk} {b : Nat} {cv : Value} (x : Aft h h' b cv) (y : Aft h' h'' b cv) : Aft h h'' b cv :=
  ⟨y.src, fun i k hi hx => y.keep i k hi (x.keep i k hi hx), fun h0 hl e => y.app h0 hl (x.app h0 hl e), Nat.le_trans x.len y.len⟩
theorem app_set' {h0 L : List Blk} {i : Nat} (hi : h0.length ≤ i) (x : Blk) : ∃ L', (h0 ++ L).set i x = h0 ++ L' := ⟨L.set (i - h0.length) x, List.set_append_right _ _ hi⟩
theorem aft_set {h : List Blk} {b : Nat} {cv : Value} {k : Blk} (hl : b < h.length) (hk : Src h b cv k) : Aft h (h.set b k) b cv :=
  ⟨⟨k, look_set hl, hk.set k⟩, fun i x hi hx => set_at hx hi.symm, fun h0 hb ⟨L, e⟩ => by subst e; exact app_set' hb k, by simp⟩
def isI : Value → Bool
  | .int .i64 _ => true
  | _ => false
theorem ints_at : ∀ {cs : List Value} {n : Nat}, cs.all isI = true → n ≤ cs.length → ∀ i, i < n → ∃ v, cs[i]? = some (.int .i64 v)
  | [], n, _, h, i, hi => absurd h (by simp; omega)
  | c :: cs, n, h, hl, i, hi => by
    rw [List.all_cons, Bool.and_eq_true] at h
    cases i with
    | zero =>
      cases c with
      | int k v => cases k <;> first | exact ⟨v, rfl⟩ | exact absurd h.1 (by simp [isI])
      | _ => exact absurd h.1 (by simp [isI])
    | succ i => exact ints_at (cs := cs) (n := n - 1) h.2 (by simp at hl; omega) i (by omega)
theorem next_aft {h : List Blk} {b : Nat} {cv : Value} (s : SrcAt h b cv) {N : Nat} (hN : 0 < N) (hN2 : N ≤ 1125899906842624) :
    ∃ (x : Nat) (h' : List Blk), x < N ∧ Aft h h' b cv ∧ AC Tryd.prog 32 [pt b 0, .int .i64 N] h (.int .i64 x) h' := by
  obtain ⟨k, hb, hk⟩ := s
  obtain ⟨x, k', hx, hk', hc⟩ := next_ex hb hk hN hN2
  exact ⟨x, _, hx, aft_set (blt hb) hk', hc⟩

theorem pick_aft {h : List Blk} {b : Nat} {cv : Value} (s : SrcAt h b cv) {bl n : Nat} {cs : List Value} {r : Bool} (hl : h[bl]? = some ⟨cs, r⟩) (hne : bl ≠ b) (hn : 0 < n) (hn2 : n ≤ 1000) (hcs : ∀ i, i < n → ∃ v, cs[i]? = some (.int .i64 v)) :
    ∃ (v : Int) (h' : List Blk), (∃ i, i < n ∧ cs[i]? = some (.int .i64 v)) ∧ Aft h h' b cv ∧ AC Tryd.prog 39 [pt b 0, sl bl 0 n 1] h (.int .i64 v) h' := by
  obtain ⟨x, h1, hx, a1, c1⟩ := next_aft s hn (by omega)
  obtain ⟨v, hv⟩ := hcs x hx
  have hl1 := a1.keep _ _ hne hl
  refine ⟨v, h1, ⟨x, hx, hv⟩, a1, ?_⟩
  have hlen := a1.len
  (refine AC_begin (fun _ _ => Tryd.call39 _ _) Tryd.func39 rfl Tryd.ntmps39 Tryd.results39 (fun hwf => ?_); simp only [List.length_cons, List.length_nil, Nat.reduceAdd, Nat.reduceSub, List.replicate, List.cons_append, List.nil_append])
  (refine sW (And.intro @hl1 @hv) @c1 ?_)
  refine ret_full (by first | exact .inr rfl | exact .inl rfl) hlen ?_
  simp (maxSteps := 1000000) (disch := first | omega | rfl | decide | (simp only [List.length_cons, List.length_nil, List.length_append, Bs_length, Is_length, Vs_length, Bl_length, Il_length] <;> omega)) only [go_sem, Nat.reduceAdd, Int.reduceAdd, Int.reduceSub, Int.reduceMul, Bool.not_true, Bool.not_false]
  try rfl

theorem pickL_aft {h : List Blk} {b : Nat} {cv : Value} (s : SrcAt h b cv) (cs : List Value) {n : Nat} (hi : cs.all isI = true) (hcl : cs.length = n) (hn : 0 < n) (hn2 : n ≤ 1000) :
    ∃ (v : Int) (h' : List Blk), (∃ i, i < n ∧ cs[i]? = some (.int .i64 v)) ∧ Aft h h' b cv ∧ AC Tryd.prog 39 [pt b 0, sl h.length 0 n 1] (h ++ [⟨cs, true⟩]) (.int .i64 v) h' := by
  have a0 := s.more [⟨cs, true⟩]
  obtain ⟨v, h', e, a1, c⟩ := pick_aft a0.src (bl := h.length) (n := n) (cs := cs) (r := true) (by simp) (by have := s.lt; omega) hn hn2 (ints_at hi (by omega))
  exact ⟨v, h', e, a0.trans a1, c⟩

/-- The fields among the first k numbers from 256 on. -/
def fl : Nat → List Int
  | 0 => []
  | k + 1 => if fieldB (256 + k) then fl k ++ [((256 + k : Nat) : Int)] else fl k
theorem fl_t {k : Nat} (h : fieldB (256 + k) = true) : fl (k + 1) = fl k ++ [((256 + k : Nat) : Int)] := by rw [fl, if_pos h]
theorem fl_f {k : Nat} (h : fieldB (256 + k) = false) : fl (k + 1) = fl k := by rw [fl, h]; rfl
theorem fl_le : ∀ k, (fl k).length ≤ k
  | 0 => Nat.le_refl 0
  | k + 1 => by have := fl_le k; unfold fl; split <;> simp <;> omega
/-- All fields. -/
def FL : List Int := fl 256
theorem FL_pos : 0 < FL.length := by decide +kernel
theorem FL_le : FL.length ≤ 256 := fl_le 256
theorem FL_eq : fl 256 = FL := rfl
attribute [irreducible] FL
theorem Il_snoc (l : List Int) (x : Int) : Il l ++ [.int .i64 x] = Il (l ++ [x]) := by unfold Il; rw [List.map_append]; rfl
theorem Il_isI (l : List Int) : (Il l).all isI = true := by
  unfold Il; rw [List.all_map, List.all_eq_true]; intro x _; rfl
theorem fieldsS_ac (h : List Blk) : AC Tryd.prog 75 [] h (sl h.length 0 FL.length 1) (h ++ [⟨Il FL, true⟩]) := by
  rw [← FL_eq]
  (refine AC_begin (fun _ _ => Tryd.call75 _ _) Tryd.func75 rfl Tryd.ntmps75 Tryd.results75 (fun hwf => ?_); simp only [List.length_cons, List.length_nil, Nat.reduceAdd, Nat.reduceSub, List.replicate, List.cons_append, List.nil_append])
  (refine sN0 ?_)
  refine WA_forP (fun k => [(1, sl h.length 0 (fl k).length 1), (2, .int .i64 ((256 + k : Nat) : Int)), (3, J), (4, J), (5, J), (6, J), (7, J), (8, J), (9, J), (10, J), (11, J), (12, J), (13, J)]) (fun k => [(0, ⟨Il (fl k), true⟩)]) (256) ?_ ?_ ?_ <;> (try simp only [patT_cons, patT_nil, patL_cons, patL_nil, list_set_zero, list_set_succ, blk_set_zero, blk_set_succ])
  · (exact sS (show (fl 0).length = 0 from rfl))
  · intro k hk
    have hle := fl_le k
    cases hf : fieldB (256 + k)
    · (refine sW (And.intro @Int.toNat_natCast @hf) @fieldS_ac ?_)
      rw [fl_f hf]
      (exact sS @Nat.add_assoc)
    · (refine sW (And.intro @Int.toNat_natCast (And.intro @hf (And.intro @lit1I (And.intro @sub1 @Il_snoc)))) @fieldS_ac ?_)
      rw [fl_t hf, List.length_append]
      (exact gCE @Nat.add_assoc [2])
  · (refine sN0 ?_)
    (exact sR0)

theorem drawField_aft {h : List Blk} {b : Nat} {cv : Value} (s : SrcAt h b cv) :
    ∃ (v : Int) (h' : List Blk), Aft h h' b cv ∧ AC Tryd.prog 60 [pt b 0] h (.int .i64 v) h' := by
  have hbl := s.lt
  have hfp := FL_pos
  have hfl := FL_le
  have a0 := s.more [⟨Il FL, true⟩]
  obtain ⟨x1, h1, hx1, a1, c1⟩ := next_aft a0.src (N := FL.length) hfp (by omega)
  obtain ⟨x2, h2, hx2, a2, c2⟩ := next_aft a1.src (N := FL.length) hfp (by omega)
  have hF0 : (h ++ [(⟨Il FL, true⟩ : Blk)])[h.length]? = some ⟨Il FL, true⟩ := by simp
  have hF1 := a1.keep _ _ (by omega) hF0
  have hF2 := a2.keep _ _ (by omega) hF1
  obtain ⟨v1, hv1⟩ := ints_at (Il_isI FL) (Nat.le_of_eq (Il_length FL).symm) x1 hx1
  obtain ⟨v2, hv2⟩ := ints_at (Il_isI FL) (Nat.le_of_eq (Il_length FL).symm) x2 hx2
  obtain ⟨v, h3, _, a4, c3⟩ := pickL_aft a2.src [.int .i64 285, .int .i64 v1, .int .i64 v2] (n := 3) rfl rfl (by omega) (by omega)
  have hA := ((a0.trans a1).trans a2).trans a4
  have hlen := hA.len
  refine ⟨v, h3, hA, ?_⟩
  clear a0 a1 a2 a4
  (refine AC_begin (fun _ _ => Tryd.call60 _ _) Tryd.func60 rfl Tryd.ntmps60 Tryd.results60 (fun hwf => ?_); simp only [List.length_cons, List.length_nil, Nat.reduceAdd, Nat.reduceSub, List.replicate, List.cons_append, List.nil_append])
  (repeat (first | ((first | (refine And.intro ?_ ?_; focus (first | exact plain_agg (by simp only [go_sem]) | exact plain_two (by first | exact plain_agg (by simp only [go_sem]) | rfl) rfl | rfl)) | ((first | with_reducible apply callB_i | with_reducible apply callK_intro | with_reducible apply callQ_i); (focus (first | assumption | ((first | with_reducible apply fieldsS_ac | with_reducible apply c1 | with_reducible apply c2 | with_reducible apply c3) <;> (first | assumption | rfl | (simp (disch := omega) only [go_sem]; first | done | rfl) | omega | decide | (simp; done))))); (try (focus (refine WP.mk ?_ ?_; (focus ((repeat (first | exact trivial | (refine And.intro ?_ ?_; (focus first | exact plainV_wf rfl | (refine plainV_wf (plain_agg ?_); simp only [go_sem]; done) | (simp only [wfV, wf1, wfC, List.length_append, List.length_cons, List.length_nil]; omega))))))); (focus (first | rfl | (refine plain_agg ?_; simp only [go_sem]; done) | (refine plain_two ?_ ?_ <;> first | rfl | (refine plain_agg ?_; simp only [go_sem]; done)))))))) | refine WA_seq (WA_region ?_) | refine WA_region ?_ | refine WA_exit ?_); try simp (maxSteps := 1000000) (disch := first | omega | rfl | decide | (simp only [List.length_cons, List.length_nil, List.length_append, Bs_length, Is_length, Vs_length, Bl_length, Il_length] <;> omega)) only [go_sem, Nat.reduceAdd, Int.reduceAdd, Int.reduceSub, Int.reduceMul, Bool.not_true, Bool.not_false, hF1, hF2, hv1, hv2]) | (refine (WA_rb (id := 2) [5, 7, 12, 14, 15, 16] (SubM.refl _) mixedOk ?_); simp only [List.size_toArray, List.length_cons, List.length_nil]; (repeat' (first | ((first | (refine And.intro ?_ ?_; focus (first | exact plain_agg (by simp only [go_sem]) | exact plain_two (by first | exact plain_agg (by simp only [go_sem]) | rfl) rfl | rfl)) | ((first | with_reducible apply callB_i | with_reducible apply callK_intro | with_reducible apply callQ_i); (focus (first | assumption | ((first | with_reducible apply fieldsS_ac | with_reducible apply c1 | with_reducible apply c2 | with_reducible apply c3) <;> (first | assumption | rfl | (simp (disch := omega) only [go_sem]; first | done | rfl) | omega | decide | (simp; done))))); (try (focus (refine WP.mk ?_ ?_; (focus ((repeat (first | exact trivial | (refine And.intro ?_ ?_; (focus first | exact plainV_wf rfl | (refine plainV_wf (plain_agg ?_); simp only [go_sem]; done) | (simp only [wfV, wf1, wfC, List.length_append, List.length_cons, List.length_nil]; omega))))))); (focus (first | rfl | (refine plain_agg ?_; simp only [go_sem]; done) | (refine plain_two ?_ ?_ <;> first | rfl | (refine plain_agg ?_; simp only [go_sem]; done)))))))) | refine RB_take false [0, 1, 2, 3, 4, 8, 9, 10, 11] 9 (by rfl) (by kernel_rfl) (by decide) (by decide +kernel) ?_ | refine RB_exec 5 _ (by rfl) (by decide +kernel) (by decide +kernel) ?_ | refine RB_take false [6] 7 (by rfl) (by kernel_rfl) (by decide) (by decide +kernel) ?_ | refine RB_two 7 12 _ (by rfl) (by decide +kernel) (by decide +kernel) (by decide +kernel) ?_ ?_ | refine RB_exec 12 _ (by rfl) (by decide +kernel) (by decide +kernel) ?_ | refine RB_take false [13] 4 (by rfl) (by kernel_rfl) (by decide) (by decide +kernel) ?_ | refine RB_exec 14 _ (by rfl) (by decide +kernel) (by decide +kernel) ?_ | refine RB_exec 15 _ (by rfl) (by decide +kernel) (by decide +kernel) ?_ | refine RB_exec 16 _ (by rfl) (by decide +kernel) (by decide +kernel) ?_ | refine RB_take false [17] 0 (by rfl) (by kernel_rfl) (by decide) (by decide +kernel) ?_ | refine RB_done (by decide +kernel) ?_ | refine RB_take false [13] 5 (by rfl) (by kernel_rfl) (by decide) (by decide +kernel) ?_ | refine RB_two 7 14 _ (by rfl) (by decide +kernel) (by decide +kernel) (by decide +kernel) ?_ ?_ | refine RB_exec 7 _ (by rfl) (by decide +kernel) (by decide +kernel) ?_) <;> try simp (maxSteps := 1000000) (disch := first | omega | rfl | decide | (simp only [List.length_cons, List.length_nil, List.length_append, Bs_length, Is_length, Vs_length, Bl_length, Il_length] <;> omega)) only [go_sem, Nat.reduceAdd, Int.reduceAdd, Int.reduceSub, Int.reduceMul, Bool.not_true, Bool.not_false, hF1, hF2, hv1, hv2])))) | refine WA_seq ?_ | refine WA_block ?_ | (refine WA_skip ?_; try simp only [go_sem]) | (refine WA_ret ?_; try simp only [go_sem]) | (refine WA_cond_t rfl ?_ ?_; focus (first | with_reducible rfl | with_reducible exact beq_self_eq_true _ | exact decide_eq_true (by omega) | exact beq_t (by omega) | exact bne_t (by omega) | assumption)) | (refine WA_cond_f rfl ?_ ?_; focus (first | with_reducible rfl | with_reducible exact bne_self_eq_false _ | exact decide_eq_false (by omega) | exact beq_f (by omega) | exact bne_f (by omega) | assumption))))
  all_goals (refine sN0 ?_)
  all_goals (refine ret_full (by first | exact .inr rfl | exact .inl rfl) hlen ?_)
  all_goals simp (maxSteps := 1000000) (disch := first | omega | rfl | decide | (simp only [List.length_cons, List.length_nil, List.length_append, Bs_length, Is_length, Vs_length, Bl_length, Il_length] <;> omega)) only [go_sem, Nat.reduceAdd, Int.reduceAdd, Int.reduceSub, Int.reduceMul, Bool.not_true, Bool.not_false]
  all_goals try rfl

theorem spoil_aft {h : List Blk} {b : Nat} {cv : Value} (s : SrcAt h b cv) :
    ∃ (v : Int) (h' : List Blk), Aft h h' b cv ∧ AC Tryd.prog 31 [pt b 0] h (.int .i64 v) h' := by
  obtain ⟨x, h1, hx, a1, c1⟩ := next_aft s (N := 20) (by omega) (by omega)
  by_cases h0 : x = 0
  · subst h0
    obtain ⟨v, h2, _, a2, c2⟩ := pickL_aft a1.src [.int .i64 0, .int .i64 256, .int .i64 257, .int .i64 511, .int .i64 512, .int .i64 (-285), .int .i64 300, .int .i64 1099511627776] (n := 8) rfl rfl (by omega) (by omega)
    have hA := a1.trans a2
    refine ⟨v, h2, hA, ?_⟩
    have hlen := hA.len
    (refine AC_begin (fun _ _ => Tryd.call31 _ _) Tryd.func31 rfl Tryd.ntmps31 Tryd.results31 (fun hwf => ?_); simp only [List.length_cons, List.length_nil, Nat.reduceAdd, Nat.reduceSub, List.replicate, List.cons_append, List.nil_append])
    (refine sW0 (And.intro @c1 @c2) ?_)
    refine ret_full (by first | exact .inr rfl | exact .inl rfl) hlen ?_
    simp (maxSteps := 1000000) (disch := first | omega | rfl | decide | (simp only [List.length_cons, List.length_nil, List.length_append, Bs_length, Is_length, Vs_length, Bl_length, Il_length] <;> omega)) only [go_sem, Nat.reduceAdd, Int.reduceAdd, Int.reduceSub, Int.reduceMul, Bool.not_true, Bool.not_false]
    try rfl
  · obtain ⟨y, h2, a2, c2⟩ := drawField_aft a1.src
    have hb : (x == 0) = false := by simpa using h0
    refine ⟨y, h2, a1.trans a2, ?_⟩
    have hlen := (a1.trans a2).len
    (refine AC_begin (fun _ _ => Tryd.call31 _ _) Tryd.func31 rfl Tryd.ntmps31 Tryd.results31 (fun hwf => ?_); simp only [List.length_cons, List.length_nil, Nat.reduceAdd, Nat.reduceSub, List.replicate, List.cons_append, List.nil_append])
    (refine sW @hb (And.intro @c1 @c2) ?_)
    refine ret_full (by first | exact .inr rfl | exact .inl rfl) hlen ?_
    simp (maxSteps := 1000000) (disch := first | omega | rfl | decide | (simp only [List.length_cons, List.length_nil, List.length_append, Bs_length, Is_length, Vs_length, Bl_length, Il_length] <;> omega)) only [go_sem, Nat.reduceAdd, Int.reduceAdd, Int.reduceSub, Int.reduceMul, Bool.not_true, Bool.not_false]
    try rfl

theorem drawByte_aft {h : List Blk} {b : Nat} {cv : Value} (s : SrcAt h b cv) :
    ∃ (v : UInt8) (h' : List Blk), Aft h h' b cv ∧ AC Tryd.prog 40 [pt b 0] h (B v) h' := by
  obtain ⟨x1, h1, _, a1, c1⟩ := next_aft s (N := 4) (by omega) (by omega)
  obtain ⟨x2, h2, _, a2, c2⟩ := next_aft a1.src (N := 256) (by omega) (by omega)
  obtain ⟨x3, h3, _, a3, c3⟩ := next_aft a2.src (N := 256) (by omega) (by omega)
  obtain ⟨v, h4, _, a4, c4⟩ := pickL_aft a3.src [.int .i64 x1, .int .i64 x2, .int .i64 x3, .int .i64 255] (n := 4) rfl rfl (by omega) (by omega)
  have hA := ((a1.trans a2).trans a3).trans a4
  refine ⟨toB v, h4, hA, ?_⟩
  have hlen := hA.len
  (refine AC_begin (fun _ _ => Tryd.call40 _ _) Tryd.func40 rfl Tryd.ntmps40 Tryd.results40 (fun hwf => ?_); simp only [List.length_cons, List.length_nil, Nat.reduceAdd, Nat.reduceSub, List.replicate, List.cons_append, List.nil_append])
  (refine sW0 (And.intro @c1 (And.intro @c2 (And.intro @c3 @c4))) ?_)
  refine ret_full (by first | exact .inr rfl | exact .inl rfl) hlen ?_
  simp (maxSteps := 1000000) (disch := first | omega | rfl | decide | (simp only [List.length_cons, List.length_nil, List.length_append, Bs_length, Is_length, Vs_length, Bl_length, Il_length] <;> omega)) only [go_sem, Nat.reduceAdd, Int.reduceAdd, Int.reduceSub, Int.reduceMul, Bool.not_true, Bool.not_false]
  try rfl

/-- A code, as an argument. -/
inductive Cv (h : List Blk) : Value → Prop
  | nil : Cv h (.slice none 0 0)
  | sl {bc n : Nat} {f : Nat → UInt8} {rc : Bool} (hb : h[bc]? = some ⟨Bs n f, rc⟩) (hn : n ≤ 4096) : Cv h (sl bc 0 n 1)
theorem Cv.app {h : List Blk} {cv : Value} (c : Cv h cv) (L : List Blk) : Cv (h ++ L) cv := by
  cases c with
  | nil => exact .nil
  | sl hb hn => exact .sl (look_old hb L) hn
/-- The state of a source after k bytes. -/
def frH (s0 : Int) (f : Nat → UInt8) : Nat → Int
  | 0 => s0
  | k + 1 => IntKind.u64.wrap (IntKind.u64.wrap (IntKind.u64.wrap (frH s0 f k * 1099511628211) + ((f k).toNat : Int)) + 11)
theorem from_aft {h : List Blk} {cv : Value} (c : Cv h cv) : ∃ h', SrcAt h' h.length cv ∧ (∃ L, h' = h ++ L) ∧ AC Tryd.prog 30 [cv] h (pt h.length 0) h' := by
  cases c with
  | nil =>
    refine ⟨h ++ [⟨Sr (.slice none 0 0) ((0 : Nat) : Int) 9001, true⟩], ⟨⟨Sr (.slice none 0 0) ((0 : Nat) : Int) 9001, true⟩, by simp, 0, 9001, 0, fun _ => 0, rfl, Nat.le_refl _, by omega, .nil _⟩, ⟨_, rfl⟩, ?_⟩
    (refine AC_begin (fun _ _ => Tryd.call30 _ _) Tryd.func30 rfl Tryd.ntmps30 Tryd.results30 (fun hwf => ?_); simp only [List.length_cons, List.length_nil, Nat.reduceAdd, Nat.reduceSub, List.replicate, List.cons_append, List.nil_append])
    (repeat (first | ((first | (refine And.intro ?_ ?_; focus (first | exact plain_agg (by simp only [go_sem]) | exact plain_two (by first | exact plain_agg (by simp only [go_sem]) | rfl) rfl | rfl)) | refine WA_seq (WA_region ?_) | refine WA_region ?_ | refine WA_exit ?_); try simp (maxSteps := 1000000) (disch := first | omega | rfl | decide | (simp only [List.length_cons, List.length_nil, List.length_append, Bs_length, Is_length, Vs_length, Bl_length, Il_length] <;> omega)) only [go_sem, Nat.reduceAdd, Int.reduceAdd, Int.reduceSub, Int.reduceMul, Bool.not_true, Bool.not_false, yieldA_at 4 16]) | (refine (WA_rb (id := 5) [15] (SubM.refl _) mixedOk ?_); simp only [List.size_toArray, List.length_cons, List.length_nil]; (repeat (first | ((first | (refine And.intro ?_ ?_; focus (first | exact plain_agg (by simp only [go_sem]) | exact plain_two (by first | exact plain_agg (by simp only [go_sem]) | rfl) rfl | rfl)) | refine RB_take false [0, 1, 2, 3, 6, 7, 8] 9 (by rfl) (by kernel_rfl) (by decide) (by decide +kernel) ?_ | refine RB_take true [4, 9] 7 (by rfl) (by kernel_rfl) (by decide) (by decide +kernel) ?_ | refine RB_take false [5, 10, 11, 12, 13, 14] 1 (by rfl) (by kernel_rfl) (by decide) (by decide +kernel) ?_ | refine RB_exec 15 _ (by rfl) (by decide +kernel) (by decide +kernel) ?_ | refine RB_done (by decide +kernel) ?_); try simp (maxSteps := 1000000) (disch := first | omega | rfl | decide | (simp only [List.length_cons, List.length_nil, List.length_append, Bs_length, Is_length, Vs_length, Bl_length, Il_length] <;> omega)) only [go_sem, Nat.reduceAdd, Int.reduceAdd, Int.reduceSub, Int.reduceMul, Bool.not_true, Bool.not_false, yieldA_at 4 16])))) | refine WA_seq ?_ | refine WA_block ?_ | (refine WA_skip ?_; try simp only [go_sem]) | (refine WA_ret ?_; try simp only [go_sem]) | (refine WA_cond_t rfl ?_ ?_; focus (first | with_reducible rfl | with_reducible exact beq_self_eq_true _ | exact decide_eq_true (by omega) | exact beq_t (by omega) | exact bne_t (by omega) | assumption)) | (refine WA_cond_f rfl ?_ ?_; focus (first | with_reducible rfl | with_reducible exact bne_self_eq_false _ | exact decide_eq_false (by omega) | exact beq_f (by omega) | exact bne_f (by omega) | assumption))))
    refine WA_forP (fun k => [(4, .int .i64 k), (12, J), (13, J), (14, J), (15, J), (16, J), (17, J), (18, J), (19, J), (20, J), (21, J), (22, J), (23, J), (24, J), (25, J), (26, J), (27, J), (28, J), (29, J), (30, J), (31, J), (32, J), (33, J), (34, J), (35, J), (36, J)]) (fun k => []) (0) ?_ ?_ ?_ <;> (try simp only [patT_cons, patT_nil, patL_cons, patL_nil, list_set_zero, list_set_succ, blk_set_zero, blk_set_succ])
    · (exact sS0)
    · intro k hk
      omega
    · (refine sN (And.intro (show decide ((0 : Nat) < 0) = false from rfl) (And.intro (show decide ((0 : Int) < 0) = false from rfl) (@yieldA_at 4 16))) ?_)
      (exact sR0)
  | @sl bc n f rc hb hn =>
    have hbl := blt hb
    refine ⟨h ++ [⟨Sr (sl bc 0 n 1) ((0 : Nat) : Int) (frH ((9001 + n : Nat) : Int) f n), true⟩], ⟨⟨Sr (sl bc 0 n 1) ((0 : Nat) : Int) (frH ((9001 + n : Nat) : Int) f n), true⟩, by simp, 0, _, n, f, rfl, Nat.zero_le _, hn, .sl f (look_old hb _) (by omega)⟩, ⟨_, rfl⟩, ?_⟩
    (refine AC_begin (fun _ _ => Tryd.call30 _ _) Tryd.func30 rfl Tryd.ntmps30 Tryd.results30 (fun hwf => ?_); simp only [List.length_cons, List.length_nil, Nat.reduceAdd, Nat.reduceSub, List.replicate, List.cons_append, List.nil_append])
    (repeat (first | ((first | (refine And.intro ?_ ?_; focus (first | exact plain_agg (by simp only [go_sem]) | exact plain_two (by first | exact plain_agg (by simp only [go_sem]) | rfl) rfl | rfl)) | refine WA_seq (WA_region ?_) | refine WA_region ?_ | refine WA_exit ?_); try simp (maxSteps := 1000000) (disch := first | omega | rfl | decide | (simp only [List.length_cons, List.length_nil, List.length_append, Bs_length, Is_length, Vs_length, Bl_length, Il_length] <;> omega)) only [go_sem, Nat.reduceAdd, Int.reduceAdd, Int.reduceSub, Int.reduceMul, Bool.not_true, Bool.not_false, yieldA_at 4 16]) | (refine (WA_rb (id := 5) [15] (SubM.refl _) mixedOk ?_); simp only [List.size_toArray, List.length_cons, List.length_nil]; (repeat (first | ((first | (refine And.intro ?_ ?_; focus (first | exact plain_agg (by simp only [go_sem]) | exact plain_two (by first | exact plain_agg (by simp only [go_sem]) | rfl) rfl | rfl)) | refine RB_take false [0, 1, 2, 3, 6, 7, 8] 9 (by rfl) (by kernel_rfl) (by decide) (by decide +kernel) ?_ | refine RB_take true [4, 9] 7 (by rfl) (by kernel_rfl) (by decide) (by decide +kernel) ?_ | refine RB_take false [5, 10, 11, 12, 13, 14] 1 (by rfl) (by kernel_rfl) (by decide) (by decide +kernel) ?_ | refine RB_exec 15 _ (by rfl) (by decide +kernel) (by decide +kernel) ?_ | refine RB_done (by decide +kernel) ?_); try simp (maxSteps := 1000000) (disch := first | omega | rfl | decide | (simp only [List.length_cons, List.length_nil, List.length_append, Bs_length, Is_length, Vs_length, Bl_length, Il_length] <;> omega)) only [go_sem, Nat.reduceAdd, Int.reduceAdd, Int.reduceSub, Int.reduceMul, Bool.not_true, Bool.not_false, yieldA_at 4 16])))) | refine WA_seq ?_ | refine WA_block ?_ | (refine WA_skip ?_; try simp only [go_sem]) | (refine WA_ret ?_; try simp only [go_sem]) | (refine WA_cond_t rfl ?_ ?_; focus (first | with_reducible rfl | with_reducible exact beq_self_eq_true _ | exact decide_eq_true (by omega) | exact beq_t (by omega) | exact bne_t (by omega) | assumption)) | (refine WA_cond_f rfl ?_ ?_; focus (first | with_reducible rfl | with_reducible exact bne_self_eq_false _ | exact decide_eq_false (by omega) | exact beq_f (by omega) | exact bne_f (by omega) | assumption))))
    refine WA_forP (fun k => [(4, .int .i64 k), (12, J), (13, J), (14, J), (15, J), (16, J), (17, J), (18, J), (19, J), (20, J), (21, J), (22, J), (23, J), (24, J), (25, J), (26, J), (27, J), (28, J), (29, J), (30, J), (31, J), (32, J), (33, J), (34, J), (35, J), (36, J)]) (fun k => [(0, ⟨Sr (sl bc 0 n 1) ((0 : Nat) : Int) (frH ((9001 + n : Nat) : Int) f k), true⟩)]) (n) ?_ ?_ ?_ <;> (try simp only [patT_cons, patT_nil, patL_cons, patL_nil, list_set_zero, list_set_succ, blk_set_zero, blk_set_succ])
    · (exact sS0)
    · intro k hk
      have hx := u8_lt (f k)
      (repeat (first | ((first | (refine And.intro ?_ ?_; focus (first | exact plain_agg (by simp only [go_sem]) | exact plain_two (by first | exact plain_agg (by simp only [go_sem]) | rfl) rfl | rfl)) | refine WA_seq (WA_region ?_) | refine WA_region ?_ | refine WA_exit ?_); try simp (maxSteps := 1000000) (disch := first | omega | rfl | decide | (simp only [List.length_cons, List.length_nil, List.length_append, Bs_length, Is_length, Vs_length, Bl_length, Il_length] <;> omega)) only [go_sem, Nat.reduceAdd, Int.reduceAdd, Int.reduceSub, Int.reduceMul, Bool.not_true, Bool.not_false, look_old hb, decide_eq_true hk, show decide (k < 4096) = true from decide_eq_true (by omega), show IntKind.u64.wrap (IntKind.u64.wrap (IntKind.u64.wrap (frH ((9001 + n : Nat) : Int) f k * 1099511628211) + ((f k).toNat : Int)) + 11) = frH ((9001 + n : Nat) : Int) f (k + 1) from rfl, yieldA_at 4 16]) | (refine (WA_rb (id := 5) [15] (SubM.refl _) mixedOk ?_); simp only [List.size_toArray, List.length_cons, List.length_nil]; (repeat (first | ((first | (refine And.intro ?_ ?_; focus (first | exact plain_agg (by simp only [go_sem]) | exact plain_two (by first | exact plain_agg (by simp only [go_sem]) | rfl) rfl | rfl)) | refine RB_take false [0, 1, 2, 3, 6, 7, 8] 9 (by rfl) (by kernel_rfl) (by decide) (by decide +kernel) ?_ | refine RB_take true [4, 9] 7 (by rfl) (by kernel_rfl) (by decide) (by decide +kernel) ?_ | refine RB_take false [5, 10, 11, 12, 13, 14] 1 (by rfl) (by kernel_rfl) (by decide) (by decide +kernel) ?_ | refine RB_exec 15 _ (by rfl) (by decide +kernel) (by decide +kernel) ?_ | refine RB_done (by decide +kernel) ?_); try simp (maxSteps := 1000000) (disch := first | omega | rfl | decide | (simp only [List.length_cons, List.length_nil, List.length_append, Bs_length, Is_length, Vs_length, Bl_length, Il_length] <;> omega)) only [go_sem, Nat.reduceAdd, Int.reduceAdd, Int.reduceSub, Int.reduceMul, Bool.not_true, Bool.not_false, look_old hb, decide_eq_true hk, show decide (k < 4096) = true from decide_eq_true (by omega), show IntKind.u64.wrap (IntKind.u64.wrap (IntKind.u64.wrap (frH ((9001 + n : Nat) : Int) f k * 1099511628211) + ((f k).toNat : Int)) + 11) = frH ((9001 + n : Nat) : Int) f (k + 1) from rfl, yieldA_at 4 16])))) | refine WA_seq ?_ | refine WA_block ?_ | (refine WA_skip ?_; try simp only [go_sem]) | (refine WA_ret ?_; try simp only [go_sem]) | (refine WA_cond_t rfl ?_ ?_; focus (first | with_reducible rfl | with_reducible exact beq_self_eq_true _ | exact decide_eq_true (by omega) | exact beq_t (by omega) | exact bne_t (by omega) | assumption)) | (refine WA_cond_f rfl ?_ ?_; focus (first | with_reducible rfl | with_reducible exact bne_self_eq_false _ | exact decide_eq_false (by omega) | exact beq_f (by omega) | exact bne_f (by omega) | assumption))))
      (exact sS0)
    · (refine sN (And.intro (show decide (n < n) = false from decide_eq_false (Nat.lt_irrefl n)) (@yieldA_at 4 16)) ?_)
      (exact sR0)

end Go.Proofs.YtalbdgkbinndlaaDoor
