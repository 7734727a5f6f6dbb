/- A part of the proof of FnTrails. -/
import Derived.Test.YtenkjbkcdcionaaGreatQTLH
import Derived.Test.YtenkjbkcdcionaaGreatQTL1
import Derived.Test.YtenkjbkcdcionaaGreatQTL2
import Derived.Test.YtenkjbkcdcionaaGreatQTL5
import Derived.Test.YtenkjbkcdcionaaGreatQTL6
import Derived.Test.YtenkjbkcdcionaaGreatQTL7
/- PatternsOf: the reference. -/
namespace Go.Proofs.YtenkjbkcdcionaaGreat
set_option linter.unusedSimpArgs false
set_option linter.unusedVariables false
set_option maxRecDepth 20000
set_option maxHeartbeats 1000000
open Go.Abs

def paBl (m : Nat) (a : Nat → UInt8) : Nat → Blk := fun p => ⟨Il (patR m a p), true⟩
def paLen (m : Nat) (a : Nat → UInt8) : Nat → Nat := fun p => (patR m a p).length
theorem paBl_plain (m : Nat) (a : Nat → UInt8) (j : Nat) : (paBl m a j).cells.all plainC = true := by
  unfold paBl
  generalize patR m a j = l
  exact Il_plain l
theorem paBl_is (m : Nat) (a : Nat → UInt8) (p : Nat) : paBl m a p = ⟨Il (patL m a p 16), true⟩ := rfl
theorem paLen_is (m : Nat) (a : Nat → UInt8) (p : Nat) : paLen m a p = (patL m a p 16).length := rfl
theorem patL_zero (m : Nat) (a : Nat → UInt8) (p : Nat) : patL m a p 0 = [] := rfl
def paF (m : Nat) (a : Nat → UInt8) (p i : Nat) : Int := (patR m a p).getD i 0
theorem Il_Is (l : List Int) : Il l = Is l.length fun i => l.getD i 0 := by
  unfold Il Is
  refine List.ext_getElem? fun i => ?_
  rw [List.getElem?_map, List.getElem?_map]
  rcases Nat.lt_or_ge i l.length with h | h
  · rw [List.getElem?_eq_getElem h, List.getElem?_range h, Option.map_some, Option.map_some]
    show some (Value.int .i64 l[i]) = some (Value.int .i64 (l.getD i 0))
    rw [List.getD_eq_getElem?_getD, List.getElem?_eq_getElem h]; rfl
  · rw [List.getElem?_eq_none h, List.getElem?_eq_none (by simpa using h)]; rfl
theorem paBl_Is (m : Nat) (a : Nat → UInt8) (p : Nat) : paBl m a p = ⟨Is (paLen m a p) (paF m a p), true⟩ := by
  show (⟨Il (patR m a p), true⟩ : Blk) = _
  rw [Il_Is]; rfl
structure GrV (h h' : List Blk) (b N : Nat) (g len : Nat → Nat) (F : Nat → Nat → Int) : Prop where
  old : ∀ (i : Nat) (x : Blk), h[i]? = some x → h'[i]? = some x
  app : ∃ L, h' = h ++ L
  sp : h'[b]? = some ⟨Vs N fun j => sl (g j) 0 (len j) 1, true⟩
  row : ∀ j, j < N → h'[g j]? = some ⟨Is (len j) (F j), true⟩
  inj : ∀ i j, i < N → j < N → g i = g j → i = j
  ne : ∀ j, j < N → g j ≠ b
  newB : h.length ≤ b
  newG : ∀ j, h.length ≤ g j
theorem grV_rows {h tail : List Blk} {R : Nat → Blk} {N c : Nat} {len : Nat → Nat} {F : Nat → Nat → Int} (hs : tail[c]? = some ⟨Vs N (vsp h.length len), true⟩) (hR : ∀ j, j < N → R j = ⟨Is (len j) (F j), true⟩) :
    GrV h (rowsH h R N ++ tail) ((rowsH h R N).length + c) N (fun j => h.length + j) len F where
  old := fun i x hx => look_old (rowsH_old R N hx) tail
  app := ⟨_, rowsH_cut h R N tail⟩
  sp := by rw [List.getElem?_append_right (by omega), show (rowsH h R N).length + c - (rowsH h R N).length = c by omega]; exact hs
  row := fun j hj => by rw [← hR j hj]; exact look_old (rowsH_get h R hj) tail
  inj := fun i j _ _ e => by have : h.length + i = h.length + j := e; omega
  ne := fun j hj e => by have e' : h.length + j = (rowsH h R N).length + c := e; rw [rowsH_len] at e'; omega
  newB := by rw [rowsH_len]; omega
  newG := fun j => Nat.le_add_right _ _
theorem GrV.weak {h L h' : List Blk} {b N : Nat} {g len : Nat → Nat} {F : Nat → Nat → Int} (x : GrV (h ++ L) h' b N g len F) : GrV h h' b N g len F where
  old := fun i k hk => x.old i k (look_old hk L)
  app := by obtain ⟨A, e⟩ := x.app; exact ⟨L ++ A, by rw [e, List.append_assoc]⟩
  sp := x.sp
  row := x.row
  inj := x.inj
  ne := x.ne
  newB := by have := x.newB; rw [List.length_append] at this; omega
  newG := fun j => by have := x.newG j; rw [List.length_append] at this; omega
attribute [local irreducible] paBl paLen patL patR manyF vsp
theorem patS_ac {m : Nat} (h0 : 256 ≤ m) (h1 : m < 512) (hf : fieldB m = true) (bx mx pl : Nat → UInt8) (r : Int) (h : List Blk) : AC Tryz.prog 45 [.agg (Ci m bx mx pl r).toArray] h (sl ((rowsH h (paBl m mx) 16).length + 1) 0 16 1)
    (rowsH h (paBl m mx) 16 ++ [⟨Ci m bx mx pl r, true⟩, ⟨Vs 16 (vsp h.length (paLen m mx)), true⟩]) := by
  (refine AC_begin (fun _ _ => Tryz.call45 _ _) Tryz.func45 rfl Tryz.ntmps45 Tryz.results45 (fun hwf => ?_); simp only [LCN, Nat.reduceAdd, Nat.reduceSub, List.replicate])
  (refine sN0 ?_)
  refine WA_forH (fun k => [(1, pt (rowsH h (paBl m mx) k).length 0), (3, sl ((rowsH h (paBl m mx) k).length + 1) 0 k 1), (4, .int .i64 k), (5, J), (6, J), (7, J), (8, J), (9, J), (10, J), (11, J), (12, J), (13, J), (14, J), (15, J), (16, J), (17, J), (18, J), (19, J), (20, J), (21, J), (22, J), (23, J), (24, J), (25, J), (26, J), (27, J), (28, J), (29, J), (30, J), (31, J)]) (fun k => rowsH h (paBl m mx) k ++ [⟨Ci m bx mx pl r, true⟩, ⟨Vs k (vsp h.length (paLen m mx)), true⟩]) (16) ?_ ?_ ?_ <;> (try simp only [PTS])
  · rw [rowsH_zero]
    (exact sS0)
  · intro p hp
    have hll := rowsH_len h (paBl m mx) p
    have hwj := rowsH_wf (k := p) hwf (paBl_plain m mx)
    (refine sN0 ?_)
    refine WA_forP (fun k => [(5, sl ((rowsH h (paBl m mx) p).length + 2) 0 (patL m mx p k).length 1), (6, .int .i64 k), (12, J), (13, J), (14, J), (15, J), (16, J), (17, J), (18, J), (19, J), (20, J), (21, J), (22, J), (23, J), (24, J), (25, J), (26, J), (27, J)]) (fun k => [(2, ⟨Il (patL m mx p k), true⟩)]) (16) ?_ ?_ ?_ <;> (try simp only [PTS])
    · rw [patL_zero]
      (refine Drop_slots (by first | exact Nat.le_refl _ | (rw [List.length_append, rowsH_len]; omega)) ?_; focus ((try simp only [JL_same, JL_J, JL_nil, Int.reduceAdd, Nat.sub_sub, ICS, Bool.false_eq_true, if_false, if_true, List.length_nil]); (try exact JL_refl _)))
    · intro q hq
      have hb := becS_ac h0 h1 hf mx hp hq
      have hle := patL_le m mx p q
      by_cases hpos : 0 < manyF m mx p q
      · rw [decide_eq_true hpos] at hb
        rw [patL_t hpos]
        generalize patL m mx p q = l at *
        (refine sW (And.intro @lit1W (And.intro @sub1 @Il_snoc)) @hb ?_)
        (refine Drop_gc [0, 1, 4] (by first | omega | first | assumption | omega | (simp only [LRP]; omega)) (by assumption) (by decide) ?_ ?_; (focus (repeat (first | exact trivial | (refine And.intro ⟨_, rfl, ?_⟩ ?_; (focus first | (refine Fit_plain ?_; simp only [go_sem, ALS]; done) | exact Fit_nil rfl | exact Fit_dead | (refine Fit_eq ?_ ?_; (focus simp only [go_sem, ALS]); (focus (first | rfl | (simp only [ICS, LAC]; done) | (simp only [ICS, LAC]; rfl)))) | exact Fit_Ts | (refine Fit_spineV0 ?_ ?_; (focus omega); (focus (simp only [LAC]; omega))) | (refine Fit_spineVS ?_ ?_ ?_ ?_; (focus first | omega | assumption); (focus rfl); (focus first | rfl | assumption | omega); (focus (simp only [LAC]; omega)))))))); (focus (repeat (first | exact JR_nil | refine JR_J ?_ | (refine JR_plain ?_ ?_; (focus first | rfl | (refine plain_agg ?_; simp only [go_sem, ALS]; done))) | ((first | refine JR_pt ?_ ?_ ?_ | refine JR_sl ?_ ?_ ?_); (focus first | (rw [rhoF_new0]; rfl) | (rw [rhoF_new]; rfl) | (rw [rhoF_old]; first | assumption | omega)); (focus first | assumption | omega | (simp only [LRP]; omega))) | (refine JR_plain' ?_ ?_ ?_; (focus first | rfl | (refine plain_agg ?_; simp only [go_sem, ALS]; done)); (focus (first | rfl | (simp only [ICS, LAC]; done) | (simp only [ICS, LAC]; rfl)))) | (refine JR_sl' ?_ ?_ ?_ ?_; (focus first | (rw [rhoF_new0]; rfl) | (rw [rhoF_new]; rfl) | (rw [rhoF_old]; first | assumption | omega)); (focus first | assumption | omega | (simp only [LRP]; omega)); (focus first | rfl | omega | (first | rfl | (simp only [ICS, LAC]; done) | (simp only [ICS, LAC]; rfl))))))))
      · rw [decide_eq_false hpos] at hb
        rw [patL_f hpos]
        (refine sW0 @hb ?_)
        (refine Drop_slots (by first | exact Nat.le_refl _ | (rw [List.length_append, rowsH_len]; omega)) ?_; focus ((try simp only [JL_same, JL_J, JL_nil, Int.reduceAdd, Nat.sub_sub, ICS, Bool.false_eq_true, if_false, if_true]); (try exact JL_refl _)))
    · have e1 := paBl_is m mx p
      have e2 := paLen_is m mx p
      have hle := patL_le m mx p 16
      rw [rowsH_app, rowsH_lenS, e1]
      simp only [Nat.add_assoc, Nat.reduceAdd]
      generalize patL m mx p 16 = l at *
      (refine sN (And.intro @lit1W @sub1) ?_)
      (refine Drop_gc [2, 0, 4] (by first | omega | first | assumption | omega | (simp only [LRP]; omega)) (by assumption) (by decide) ?_ ?_; (focus (repeat (first | exact trivial | (refine And.intro ⟨_, rfl, ?_⟩ ?_; (focus first | (refine Fit_plain ?_; simp only [go_sem, ALS]; done) | exact Fit_nil rfl | exact Fit_dead | (refine Fit_eq ?_ ?_; (focus simp only [go_sem, ALS]); (focus (first | rfl | (simp only [ICS]; done) | (simp only [ICS]; rfl)))) | exact Fit_Ts | (refine Fit_spineV0 ?_ ?_; (focus omega); (focus (simp only [LAC]; omega))) | (refine Fit_spineVS ?_ ?_ ?_ ?_; (focus first | omega | assumption); (focus rfl); (focus first | rfl | assumption | omega); (focus (simp only [LAC]; omega)))))))); (focus (repeat (first | exact JR_nil | refine JR_J ?_ | (refine JR_plain ?_ ?_; (focus first | rfl | (refine plain_agg ?_; simp only [go_sem, ALS]; done))) | ((first | refine JR_pt ?_ ?_ ?_ | refine JR_sl ?_ ?_ ?_); (focus first | (rw [rhoF_new0]; rfl) | (rw [rhoF_new]; rfl) | (rw [rhoF_old]; first | assumption | omega)); (focus first | assumption | omega | (simp only [LRP]; omega))) | (refine JR_plain' ?_ ?_ ?_; (focus first | rfl | (refine plain_agg ?_; simp only [go_sem, ALS]; done)); (focus (first | rfl | (simp only [ICS]; done) | (simp only [ICS]; rfl)))) | (refine JR_sl' ?_ ?_ ?_ ?_; (focus first | (rw [rhoF_new0]; rfl) | (rw [rhoF_new]; rfl) | (rw [rhoF_old]; first | assumption | omega)); (focus first | assumption | omega | (simp only [LRP]; omega)); (focus first | rfl | omega | (first | rfl | (simp only [ICS]; done) | (simp only [ICS]; rfl))))))))
  · (refine sN0 ?_)
    rw [rowsH_cut]
    (exact sR0)

theorem paoS_no {m r : Int} {bx mx pl : Nat → UInt8} (hc : cipB m bx mx pl r = false) (h : List Blk) : AC Tryz.prog 18 [.agg (Ci m bx mx pl r).toArray] h (.tuple #[.slice none 0 0, .int .i64 1]) h := by
  (refine AC_begin (fun _ _ => Tryz.call18 _ _) Tryz.func18 rfl Tryz.ntmps18 Tryz.results18 (fun hwf => ?_); simp only [LCN, Nat.reduceAdd, Nat.reduceSub, List.replicate])
  (refine sW @hc @cipS_ac ?_)
  (exact sR0)
theorem paoS_op {m : Nat} {r : Int} {bx mx pl : Nat → UInt8} (h0 : 256 ≤ m) (h1 : m < 512) (hf : fieldB m = true) (hc : cipB m bx mx pl r = true) (h : List Blk) :
    ∃ (H : List Blk) (b : Nat) (g : Nat → Nat), GrV h H b 16 g (paLen m mx) (paF m mx) ∧ AC Tryz.prog 18 [.agg (Ci m bx mx pl r).toArray] h (.tuple #[sl b 0 16 1, .int .i64 0]) H := by
  obtain ⟨H, b, g, hG, hp⟩ : ∃ (H : List Blk) (b : Nat) (g : Nat → Nat), GrV (h ++ [⟨Ci m bx mx pl r, true⟩]) H b 16 g (paLen m mx) (paF m mx) ∧ AC Tryz.prog 45 [.agg (Ci m bx mx pl r).toArray] (h ++ [⟨Ci m bx mx pl r, true⟩]) (sl b 0 16 1) H :=
    ⟨_, _, _, grV_rows rfl fun j _ => paBl_Is m mx j, patS_ac h0 h1 hf bx mx pl r (h ++ [⟨Ci m bx mx pl r, true⟩])⟩
  have hG' := hG.weak
  refine ⟨H, b, g, hG', ?_⟩
  have hlen : h.length ≤ H.length := by obtain ⟨A, rfl⟩ := hG'.app; simp
  (refine AC_begin (fun _ _ => Tryz.call18 _ _) Tryz.func18 rfl Tryz.ntmps18 Tryz.results18 (fun hwf => ?_); simp only [LCN, Nat.reduceAdd, Nat.reduceSub, List.replicate])
  (refine sW @hc (And.intro @cipS_ac @hp) ?_)
  refine ret_full (by first | exact .inr rfl | exact .inl rfl) hlen ?_
  simp (maxSteps := 1000000) (disch := first | omega | rfl | decide | (simp only [LX] <;> omega)) only [go_sem, Nat.reduceAdd, Int.reduceAdd, Int.reduceSub, Int.reduceMul, BNS]
  try rfl

end Go.Proofs.YtenkjbkcdcionaaGreat
/- Patterns: the program. -/
namespace Go.Proofs.YtenkjbkcdcionaaGreat
set_option linter.unusedSimpArgs false
set_option linter.unusedVariables false
set_option maxRecDepth 20000
set_option maxHeartbeats 1000000
open Go.Abs

def frF (m : Nat) (a : Nat → UInt8) : Nat → Int := fun n => ((freeN m a (n / 16) (n % 16) : Nat) : Int)
theorem frF_at {m : Nat} {a : Nat → UInt8} {R C : Nat} (hC : C < 16) : frF m a (R * 16 + C) = ((freeN m a R C : Nat) : Int) := by
  unfold frF; rw [show (R * 16 + C) / 16 = R by omega, show (R * 16 + C) % 16 = C by omega]
theorem updPre {α : Type} {k : Nat} {f g : Nat → α} {x : α} (h : f k = x) : upd (pre k f g) k x = pre (k + 1) f g := by rw [← h]; exact upd_pre k f g
theorem andn_eq : ∀ x, x < 16 → ∀ p, p < 16 → (bits .andNot .i64 ((x : Nat) : Int) ((p : Nat) : Int) != 0) = !decide (x &&& p = x) := by decide +kernel
theorem andn_or : ∀ q, q < 16 → ∀ y, y < 16 → y &&& q = y → bits .or .i64 (bits .andNot .i64 15 ((q : Nat) : Int)) ((y : Nat) : Int) = ((15 ^^^ (q ^^^ y) : Nat) : Int) := by decide +kernel
theorem sgn_par : ∀ u, u < 16 → ∀ w, w < 16 → sgn u * sgn w = if (cn u 4 + cn w 4) % 2 = 1 then -1 else 1 := by decide +kernel
theorem shl8 {f : Nat} (hf : f ≤ 4) : IntKind.i64.wrap (1 * 2 ^ min (8 * f) 64) = ((256 ^ f : Nat) : Int) := by
  rw [one_shl (show 8 * f ≤ 60 by omega), Nat.one_shiftLeft, Nat.pow_mul]
theorem shl8' {f : Nat} (hf : f ≤ 4) : 1 <<< (8 * f) = 256 ^ f := by rw [Nat.one_shiftLeft, Nat.pow_mul]
def trmI (m : Nat) (a : Nat → UInt8) (p q x y : Nat) : Int := (if x &&& p = x then sgn (p ^^^ x) else 0) * (if y &&& q = y then sgn y else 0) * (256 : Int) ^ freeN m a (15 ^^^ (q ^^^ y)) x
theorem trmI_le (m : Nat) (a : Nat → UInt8) (p q x y : Nat) : -(4294967296 : Int) ≤ trmI m a p q x y ∧ trmI m a p q x y ≤ 4294967296 := by
  have h := free_4 m a (15 ^^^ (q ^^^ y)) x
  unfold trmI
  rw [pow_castN]
  generalize 256 ^ freeN m a (15 ^^^ (q ^^^ y)) x = V at *
  rcases sgn_le (p ^^^ x) with h1 | h1 <;> rcases sgn_le y with h2 | h2 <;> rw [h1, h2] <;> (split <;> split <;> simp <;> omega)
theorem trmI_no {m : Nat} {a : Nat → UInt8} {p q x y : Nat} (h : ¬ (x &&& p = x ∧ y &&& q = y)) : trmI m a p q x y = 0 := by
  unfold trmI
  by_cases h1 : x &&& p = x
  · rw [if_neg (fun h2 => h ⟨h1, h2⟩), Int.mul_zero, Int.zero_mul]
  · rw [if_neg h1, Int.zero_mul, Int.zero_mul]
theorem trmI_yes {m : Nat} {a : Nat → UInt8} {p q x y : Nat} (hp : p ^^^ x < 16) (hy : y < 16) (h1 : x &&& p = x) (h2 : y &&& q = y) : trmI m a p q x y = (if (cn (p ^^^ x) 4 + cn y 4) % 2 = 1 then -1 else 1) * ((256 ^ freeN m a (15 ^^^ (q ^^^ y)) x : Nat) : Int) := by
  unfold trmI; rw [if_pos h1, if_pos h2, pow_castN, sgn_par _ hp _ hy]
theorem rowI_le (m : Nat) (a : Nat → UInt8) (p q x k : Nat) : -((k : Int) * 4294967296) ≤ sumI (trmI m a p q x) k ∧ sumI (trmI m a p q x) k ≤ (k : Int) * 4294967296 := sumI_le fun i _ => trmI_le m a p q x i
theorem allI_le (m : Nat) (a : Nat → UInt8) (p q k : Nat) : -((k : Int) * 68719476736) ≤ sumI (fun x => sumI (trmI m a p q x) 16) k ∧ sumI (fun x => sumI (trmI m a p q x) 16) k ≤ (k : Int) * 68719476736 :=
  sumI_le fun i _ => by have := rowI_le m a p q i 16; omega
theorem appR_nil {h : List Blk} {z by' n : Nat} {news : List Value} (hn : n ≠ 0) (hr : n * by' ≤ 140737488355328) : appR h z by' (.slice none 0 0) (some (n, news)) = some (sl h.length 0 n z, h ++ [⟨news, true⟩]) := by
  show appendTo h z by' (.slice none 0 0) n news = _
  unfold appendTo
  simp only []
  rw [if_neg hn, if_pos (show roomOk n by' from hr)]
def outV (b0 : Nat) (len : Nat → Nat) (p b n : Nat) : Nat → Value := fun j => if j < p then sl (b0 + j) 0 (len j) 1 else if j = p ∧ n ≠ 0 then sl b 0 n 1 else .slice none 0 0
theorem outV_at (b0 : Nat) (len : Nat → Nat) (p b n : Nat) : outV b0 len p b n p = if n ≠ 0 then sl b 0 n 1 else .slice none 0 0 := by
  unfold outV
  rw [if_neg (Nat.lt_irrefl p)]
  by_cases h : n ≠ 0
  · rw [if_pos ⟨rfl, h⟩, if_pos h]
  · rw [if_neg fun x => h x.2, if_neg h]
theorem outV_set (b0 : Nat) (len : Nat → Nat) (p b n b' n' : Nat) (hn : n' ≠ 0) : upd (outV b0 len p b n) p (sl b' 0 n' 1) = outV b0 len p b' n' := by
  funext j; unfold upd outV
  by_cases h : j = p
  · subst h; rw [if_pos rfl, if_neg (Nat.lt_irrefl j), if_pos ⟨rfl, hn⟩]
  · rw [if_neg h]
    by_cases h2 : j < p
    · rw [if_pos h2, if_pos h2]
    · rw [if_neg h2, if_neg h2, if_neg fun x => h x.1, if_neg fun x => h x.1]
theorem outV_next (b0 : Nat) (len : Nat → Nat) (p b : Nat) : outV b0 len p (b0 + p) (len p) = outV b0 len (p + 1) b 0 ∨ len p = 0 := by
  by_cases hz : len p = 0
  · exact .inr hz
  · left
    funext j; unfold outV
    by_cases h : j < p
    · rw [if_pos h, if_pos (by omega)]
    · rw [if_neg h]
      by_cases h2 : j = p
      · subst h2; rw [if_pos ⟨rfl, hz⟩, if_pos (by omega)]
      · rw [if_neg fun x => h2 x.1, if_neg (by omega), if_neg fun x => x.2 rfl]
theorem outV_zero (b0 : Nat) (len : Nat → Nat) (p b b' : Nat) : outV b0 len p b 0 = outV b0 len p b' 0 := by
  funext j; unfold outV
  by_cases h : j < p
  · rw [if_pos h, if_pos h]
  · rw [if_neg h, if_neg h, if_neg fun x => x.2 rfl, if_neg fun x => x.2 rfl]
theorem outV_start (b0 : Nat) (len : Nat → Nat) (b : Nat) : outV b0 len 0 b 0 = fun _ => .slice none 0 0 := by
  funext j; unfold outV
  rw [if_neg (Nat.not_lt_zero j), if_neg fun x => x.2 rfl]
theorem Fit_outV {N n' b0 p n i0 : Nat} {len : Nat → Nat} {r : List Nat} (hN : N = b0 + p) (hp : p < 16) (hn : N + i0 < n') {b : Nat} (hb : b = N + r.getD i0 0) : Fit N r n' ⟨Vs 16 (outV b0 len p b n), true⟩ ⟨Vs 16 (outV b0 len p (N + i0) n), true⟩ := by
  refine Fit_ren ?_ (fun h => h) ?_
  · show Vs 16 _ = (Vs 16 _).map (renC N r)
    unfold Vs
    rw [List.map_map]
    refine List.map_congr_left fun j hj => ?_
    have := List.mem_range.1 hj
    show outV b0 len p b n j = renC N r (outV b0 len p (N + i0) n j)
    unfold outV
    by_cases h1 : j < p
    · rw [if_pos h1, if_pos h1]
      show _ = Value.slice (some (renA N r ⟨b0 + j, 0, none⟩)) (len j) 1
      unfold renA
      rw [rhoF_old (by show b0 + j < N; omega)]
    · rw [if_neg h1, if_neg h1]
      by_cases h2 : j = p ∧ n ≠ 0
      · rw [if_pos h2, if_pos h2, hb]
        show _ = Value.slice (some (renA N r ⟨N + i0, 0, none⟩)) n 1
        unfold renA
        rw [rhoF_new]
      · rw [if_neg h2, if_neg h2]; rfl
  · intro c hc
    obtain ⟨j, hj, rfl⟩ := List.mem_map.1 (show c ∈ (List.range 16).map _ from hc)
    have := List.mem_range.1 hj
    unfold outV
    split
    · show b0 + j < n'; omega
    · split
      · show N + i0 < n'; exact hn
      · trivial
end Go.Proofs.YtenkjbkcdcionaaGreat
/- Patterns: the program's walk. -/
namespace Go.Proofs.YtenkjbkcdcionaaGreat
set_option linter.unusedSimpArgs false
set_option linter.unusedVariables false
set_option maxRecDepth 20000
set_option maxHeartbeats 1000000
open Go.Abs

def ptl (l : List Int) : List Blk := if l = [] then [] else [⟨Il l, true⟩]
theorem ptl_nil : ptl [] = [] := rfl
theorem ptl_cons {l : List Int} (h : l ≠ []) : ptl l = [⟨Il l, true⟩] := if_neg h
theorem rowC_part {m : Nat} (mx : Nat → UInt8) {i j rk : Nat} (hj : j < 16) (h : freeN m mx i j = cn j 4 - rk) : upd (pre (i * 16 + j) (frF m mx) fun _ => 0) (i * 16 + j) ((cn j 4 - rk : Nat) : Int) = pre (i * 16 + j + 1) (frF m mx) fun _ => 0 := updPre (by rw [frF_at hj, h])
theorem parI (n : Nat) : (((n % 2 : Nat) : Int) == 1) = decide (n % 2 = 1) := by
  by_cases h : n % 2 = 1
  · rw [h]; rfl
  · rw [decide_eq_false h, beq_eq_false_iff_ne]; omega
theorem parN (n : Nat) : (n % 2 == 1) = decide (n % 2 = 1) := by
  by_cases h : n % 2 = 1
  · rw [h]; rfl
  · rw [decide_eq_false h, beq_eq_false_iff_ne]; exact h
theorem many_T {m : Nat} (h0 : 256 ≤ m) (h1 : m < 512) (hf : fieldB m = true) (a : Nat → UInt8) {p q : Nat} (hp : p < 16) (hq : q < 16) : sumI (fun x => sumI (trmI m a p q x) 16) 16 = manyF m a p q := many_I h0 h1 hf a hp hq
theorem patL_ne (m : Nat) (a : Nat → UInt8) {p : Nat} (hp : p < 16) : patL m a p 16 ≠ [] := fun e => by
  have h : 0 < (patL m a p 16).length := patR_pos m a hp
  rw [e] at h; exact absurd h (by decide)
theorem Fit_Vnil {N n' : Nat} {r : List Nat} : Fit N r n' ⟨Vs 16 fun _ => .slice none 0 0, true⟩ ⟨Vs 16 fun _ => .slice none 0 0, true⟩ := Fit_plain (by decide)
theorem outV_end (b0 : Nat) (len : Nat → Nat) (b : Nat) : Vs 16 (outV b0 len 16 b 0) = Vs 16 (vsp b0 len) := by
  unfold Vs
  refine List.map_congr_left fun j hj => ?_
  have := List.mem_range.1 hj
  unfold outV vsp
  rw [if_pos this]
theorem loadV (f : Nat → Value) (b : Bool) : loadRow (some ⟨Vs 16 f, b⟩) 0 16 = some (.agg (Vs 16 f).toArray) := by
  unfold loadRow
  simp only [Vs_length, Vs_sub_all]
  rfl
attribute [local irreducible] paBl paLen patL patR manyF vsp outV freeN frF ptl trmI
set_option maxHeartbeats 8000000 in
theorem patI_ac {m : Nat} (h0 : 256 ≤ m) (h1 : m < 512) (hf : fieldB m = true) (mx : Nat → UInt8) (h : List Blk) : AC Tryz.prog 39 [.int .i64 m, .agg (Bs 16 mx).toArray] h (.agg (Vs 16 (vsp h.length (paLen m mx))).toArray)
    (rowsH h (paBl m mx) 16 ++ [⟨Bs 16 mx, true⟩, ⟨Vs 16 (vsp h.length (paLen m mx)), true⟩, ⟨Is 256 (frF m mx), true⟩, ⟨Vs 16 (vsp h.length (paLen m mx)), true⟩]) := by
  (refine AC_begin (fun _ _ => Tryz.call39 _ _) Tryz.func39 rfl Tryz.ntmps39 Tryz.results39 (fun hwf => ?_); simp only [LCN, Nat.reduceAdd, Nat.reduceSub, List.replicate])
  (repeat (first | ((first | (refine And.intro ?_ ?_; focus exact PLA) | refine WA_seq (WA_region ?_) | refine WA_region ?_ | refine WA_exit ?_); try simp (maxSteps := 1000000) (disch := first | omega | rfl | decide | (simp only [LX] <;> omega)) only [go_sem, Nat.reduceAdd, Int.reduceAdd, Int.reduceSub, Int.reduceMul, BNS, yieldA_at 4 54]) | refine WA_seq ?_ | refine WA_block ?_ | (refine WA_skip ?_; try simp only [go_sem]) | (refine WA_ret ?_; try simp only [go_sem]) | refine WA_ct rfl ?_ | refine WA_cf rfl ?_))
  refine WA_forP (fun k => [(6, J), (7, J), (16, .int .i64 k), (17, J), (18, J), (19, J), (20, J), (21, J), (22, J), (23, J), (24, J), (25, J), (26, J), (27, J), (28, J), (29, J), (30, J), (31, J), (32, J), (33, J), (34, J), (35, J), (36, J)]) (fun k => [(2, ⟨Is 256 (pre (k * 16) (frF m mx) fun _ => 0), true⟩)]) (16) ?_ ?_ ?_ <;> (try simp only [PTS])
  · rw [Nat.zero_mul, pre_zero]
    (refine Drop_slots (by first | exact Nat.le_refl _ | simp) ?_; focus ((try simp only [JL_same, JL_J, JL_nil, Int.reduceAdd, Nat.sub_sub, ICS, Bool.false_eq_true, if_false, if_true]); (try exact JL_refl _)))
  · intro i hi
    (repeat (first | ((first | (refine And.intro ?_ ?_; focus exact PLA) | refine WA_seq (WA_region ?_) | refine WA_region ?_ | refine WA_exit ?_); try simp (maxSteps := 1000000) (disch := first | omega | rfl | decide | (simp only [LX] <;> omega)) only [go_sem, Nat.reduceAdd, Int.reduceAdd, Int.reduceSub, Int.reduceMul, BNS, yieldA_at 4 54]) | refine WA_seq ?_ | refine WA_block ?_ | (refine WA_skip ?_; try simp only [go_sem]) | (refine WA_ret ?_; try simp only [go_sem]) | refine WA_ct rfl ?_ | refine WA_cf rfl ?_))
    refine WA_forP (fun k => [(7, J), (19, .int .i64 k), (20, J), (21, J), (22, J), (23, J), (24, J), (25, J), (26, J), (27, J), (28, J), (29, J), (30, J), (31, J), (32, J), (33, J), (34, J), (35, J)]) (fun k => [(2, ⟨Is 256 (pre (i * 16 + k) (frF m mx) fun _ => 0), true⟩)]) (16) ?_ ?_ ?_ <;> (try simp only [PTS])
    · (refine Drop_slots (by first | exact Nat.le_refl _ | simp) ?_; focus ((try simp only [JL_same, JL_J, JL_nil, Int.reduceAdd, Nat.sub_sub, ICS, Bool.false_eq_true, if_false, if_true]); (try exact JL_refl _)))
    · intro j hj
      have hone := ones_ac (x := j) hj
      have hrk := rankI_ac h0 h1 mx (R := i) (C := j) hi hj
      have hle := free_le m mx i j
      have hc4 := cn_le j 4
      have hfr : freeN m mx i j = cn j 4 - (rkS m (cn i 4) j (E0 i mx) 4).r := by unfold freeN; rfl
      generalize (rkS m (cn i 4) j (E0 i mx) 4).r = rk at *
      have hu := rowC_part (m := m) mx hj hfr
      (repeat (first | ((first | (refine And.intro ?_ ?_; focus exact PLA) | ((first | with_reducible apply callB_i | with_reducible apply callK_intro | with_reducible apply callQ_i); (focus (first | assumption | ((first | with_reducible apply hone | with_reducible apply hrk) <;> (first | assumption | rfl | (simp (disch := omega) only [go_sem]; first | done | rfl) | omega | decide | (simp; done))))); (try exact WP_au)) | refine WA_seq (WA_region ?_) | refine WA_region ?_ | refine WA_exit ?_); try simp (maxSteps := 1000000) (disch := first | omega | rfl | decide | (simp only [LX] <;> omega)) only [go_sem, Nat.reduceAdd, Int.reduceAdd, Int.reduceSub, Int.reduceMul, BNS, hu, yieldA_at 4 54]) | (refine (WA_rb (id := 8) [13] (SubM.refl _) mixedOk ?_); simp only [LSZ]; (repeat (first | ((first | (refine And.intro ?_ ?_; focus exact PLA) | ((first | with_reducible apply callB_i | with_reducible apply callK_intro | with_reducible apply callQ_i); (focus (first | assumption | ((first | with_reducible apply hone | with_reducible apply hrk) <;> (first | assumption | rfl | (simp (disch := omega) only [go_sem]; first | done | rfl) | omega | decide | (simp; done))))); (try exact WP_au)) | refine RTk false [0, 1, 2, 3, 5, 7, 8, 11] 6 ?_ | refine RTk true [4, 6, 9] 3 ?_ | refine RTk false [10, 12] 1 ?_ | refine REx 13 ?_ | refine RB_done (by decide +kernel) ?_); try simp (maxSteps := 1000000) (disch := first | omega | rfl | decide | (simp only [LX] <;> omega)) only [go_sem, Nat.reduceAdd, Int.reduceAdd, Int.reduceSub, Int.reduceMul, BNS, hu, yieldA_at 4 54])))) | refine WA_seq ?_ | refine WA_block ?_ | (refine WA_skip ?_; try simp only [go_sem]) | (refine WA_ret ?_; try simp only [go_sem]) | refine WA_ct rfl ?_ | refine WA_cf rfl ?_))
      all_goals (refine Drop_slots (by first | exact Nat.le_refl _ | simp) ?_; focus ((try simp only [JL_same, JL_J, JL_nil, Int.reduceAdd, Nat.sub_sub, ICS, Bool.false_eq_true, if_false, if_true, Nat.add_assoc]); (try exact JL_refl _)))
    · (repeat (first | ((first | (refine And.intro ?_ ?_; focus exact PLA) | refine WA_seq (WA_region ?_) | refine WA_region ?_ | refine WA_exit ?_); try simp (maxSteps := 1000000) (disch := first | omega | rfl | decide | (simp only [LX] <;> omega)) only [go_sem, Nat.reduceAdd, Int.reduceAdd, Int.reduceSub, Int.reduceMul, BNS, yieldA_at 4 54]) | refine WA_seq ?_ | refine WA_block ?_ | (refine WA_skip ?_; try simp only [go_sem]) | (refine WA_ret ?_; try simp only [go_sem]) | refine WA_ct rfl ?_ | refine WA_cf rfl ?_))
      rw [show (i + 1) * 16 = i * 16 + 16 by omega]
      (refine Drop_slots (by first | exact Nat.le_refl _ | simp) ?_; focus ((try simp only [JL_same, JL_J, JL_nil, Int.reduceAdd, Nat.sub_sub, ICS, Bool.false_eq_true, if_false, if_true]); (try exact JL_refl _)))
  · (repeat (first | ((first | (refine And.intro ?_ ?_; focus exact PLA) | refine WA_seq (WA_region ?_) | refine WA_region ?_ | refine WA_exit ?_); try simp (maxSteps := 1000000) (disch := first | omega | rfl | decide | (simp only [LX] <;> omega)) only [go_sem, Nat.reduceAdd, Int.reduceAdd, Int.reduceSub, Int.reduceMul, BNS, yieldA_at 4 54]) | refine WA_seq ?_ | refine WA_block ?_ | (refine WA_skip ?_; try simp only [go_sem]) | (refine WA_ret ?_; try simp only [go_sem]) | refine WA_ct rfl ?_ | refine WA_cf rfl ?_))
    refine WA_forH (fun k => [(3, pt (rowsH h (paBl m mx) k).length 0), (4, pt ((rowsH h (paBl m mx) k).length + 1) 0), (5, pt ((rowsH h (paBl m mx) k).length + 2) 0), (8, pt ((rowsH h (paBl m mx) k).length + 3) 0), (9, J), (10, J), (11, J), (12, J), (13, J), (14, J), (38, .int .i64 k), (39, J), (40, J), (41, J), (42, J), (43, J), (44, J), (45, J), (46, J), (47, J), (48, J), (49, J), (50, J), (51, J), (52, J), (53, J), (54, J), (55, J), (56, J), (57, J), (58, J), (59, J), (60, J), (61, J), (62, J), (63, J), (64, J), (65, J), (66, J), (67, J), (68, J), (69, J), (70, J), (71, J), (72, J), (73, J), (74, J), (75, J), (76, J), (77, J), (78, J), (79, J), (80, J), (81, J), (82, J), (83, J), (84, J), (85, J), (86, J), (87, J), (88, J), (89, J), (90, J), (91, J), (92, J), (93, J), (94, J), (95, J), (96, J), (97, J), (98, J), (99, J)]) (fun k => rowsH h (paBl m mx) k ++ [⟨Bs 16 mx, true⟩, ⟨Vs 16 fun _ => .slice none 0 0, true⟩, ⟨Is 256 (frF m mx), true⟩, ⟨Vs 16 (outV h.length (paLen m mx) k 0 0), true⟩]) (16) ?_ ?_ ?_ <;> (try simp only [PTS])
    · rw [rowsH_zero, outV_start, show 16 * 16 = 256 from rfl, Is_pre]
      (refine Drop_slots (by first | exact Nat.le_refl _ | simp) ?_; focus ((try simp only [JL_same, JL_J, JL_nil, Int.reduceAdd, Nat.sub_sub, ICS, Bool.false_eq_true, if_false, if_true]); (try exact JL_refl _)))
    · intro p hp
      have hll := rowsH_len h (paBl m mx) p
      have hwj := rowsH_wf (k := p) hwf (paBl_plain m mx)
      (repeat (first | ((first | (refine And.intro ?_ ?_; focus exact PLA) | refine WA_seq (WA_region ?_) | refine WA_region ?_ | refine WA_exit ?_); try simp (maxSteps := 1000000) (disch := first | omega | rfl | decide | (simp only [LX] <;> omega)) only [go_sem, Nat.reduceAdd, Int.reduceAdd, Int.reduceSub, Int.reduceMul, BNS, yieldA_at 4 54]) | refine WA_seq ?_ | refine WA_block ?_ | (refine WA_skip ?_; try simp only [go_sem]) | (refine WA_ret ?_; try simp only [go_sem]) | refine WA_ct rfl ?_ | refine WA_cf rfl ?_))
      refine WA_forH (fun k => [(10, J), (11, J), (12, J), (13, J), (14, J), (41, .int .i64 k), (42, J), (43, J), (44, J), (45, J), (46, J), (47, J), (48, J), (49, J), (50, J), (51, J), (52, J), (53, J), (54, J), (55, J), (56, J), (57, J), (58, J), (59, J), (60, J), (61, J), (62, J), (63, J), (64, J), (65, J), (66, J), (67, J), (68, J), (69, J), (70, J), (71, J), (72, J), (73, J), (74, J), (75, J), (76, J), (77, J), (78, J), (79, J), (80, J), (81, J), (82, J), (83, J), (84, J), (85, J), (86, J), (87, J), (88, J), (89, J), (90, J), (91, J), (92, J), (93, J), (94, J), (95, J), (96, J), (97, J), (98, J)]) (fun k => rowsH h (paBl m mx) p ++ (⟨Bs 16 mx, true⟩ :: ⟨Vs 16 fun _ => .slice none 0 0, true⟩ :: ⟨Is 256 (frF m mx), true⟩ :: ⟨Vs 16 (outV h.length (paLen m mx) p ((rowsH h (paBl m mx) p).length + 4) (patL m mx p k).length), true⟩ :: ptl (patL m mx p k))) (16) ?_ ?_ ?_ <;> (try simp only [PTS])
      · rw [patL_zero, ptl_nil, List.length_nil, outV_zero h.length (paLen m mx) p 0 ((rowsH h (paBl m mx) p).length + 4)]
        (refine Drop_slots (by first | exact Nat.le_refl _ | (rw [List.length_append, rowsH_len]; omega)) ?_; focus ((try simp only [JL_same, JL_J, JL_nil, Int.reduceAdd, Nat.sub_sub, ICS, Bool.false_eq_true, if_false, if_true]); (try exact JL_refl _)))
      · intro q hq
        have hmany := many_T h0 h1 hf mx hp hq
        have hle := patL_le m mx p q
        have hnx : patL m mx p (q + 1) = if 0 < manyF m mx p q then patL m mx p q ++ [(q : Int)] else patL m mx p q := by
          by_cases hpos : 0 < manyF m mx p q
          · rw [if_pos hpos, patL_t hpos]
          · rw [if_neg hpos, patL_f hpos]
        rw [hnx]
        generalize patL m mx p q = l at *
        generalize hT : ptl l = T
        (repeat (first | ((first | (refine And.intro ?_ ?_; focus exact PLA) | refine WA_seq (WA_region ?_) | refine WA_region ?_ | refine WA_exit ?_); try simp (maxSteps := 1000000) (disch := first | omega | rfl | decide | (simp only [LX] <;> omega)) only [go_sem, Nat.reduceAdd, Int.reduceAdd, Int.reduceSub, Int.reduceMul, BNS, yieldA_at 4 54]) | refine WA_seq ?_ | refine WA_block ?_ | (refine WA_skip ?_; try simp only [go_sem]) | (refine WA_ret ?_; try simp only [go_sem]) | refine WA_ct rfl ?_ | refine WA_cf rfl ?_))
        refine WA_forP (fun k => [(11, .int .i64 (sumI (fun x => sumI (trmI m mx p q x) 16) k)), (12, J), (13, J), (14, J), (44, .int .i64 k), (45, J), (46, J), (47, J), (48, J), (49, J), (50, J), (51, J), (52, J), (53, J), (54, J), (55, J), (56, J), (57, J), (58, J), (59, J), (60, J), (61, J), (62, J), (63, J), (64, J), (65, J), (66, J), (67, J), (68, J), (69, J), (70, J), (71, J), (72, J), (73, J), (74, J), (75, J), (76, J), (77, J), (78, J), (79, J), (80, J), (81, J), (82, J), (83, J), (84, J), (85, J), (86, J), (87, J)]) (fun k => []) (16) ?_ ?_ ?_ <;> (try simp only [PTS])
        · (refine Drop_slots (by first | exact Nat.le_refl _ | (rw [List.length_append, rowsH_len]; omega)) ?_; focus ((try simp only [JL_same, JL_J, JL_nil, Int.reduceAdd, Nat.sub_sub, ICS, Bool.false_eq_true, if_false, if_true, show sumI (fun x => sumI (trmI m mx p q x) 16) 0 = 0 from rfl]); (try exact JL_refl _)))
        · intro x hx
          have hall := allI_le m mx p q x
          have hsx : sumI (fun x => sumI (trmI m mx p q x) 16) x + sumI (trmI m mx p q x) 16 = sumI (fun x => sumI (trmI m mx p q x) 16) (x + 1) := rfl
          rw [← hsx]
          generalize sumI (fun x => sumI (trmI m mx p q x) 16) x = S0 at *
          have hax := andn_eq x hx p hp
          (repeat (first | ((first | (refine And.intro ?_ ?_; focus exact PLA) | refine WA_seq (WA_region ?_) | refine WA_region ?_ | refine WA_exit ?_); try simp (maxSteps := 1000000) (disch := first | omega | rfl | decide | (simp only [LX] <;> omega)) only [go_sem, Nat.reduceAdd, Int.reduceAdd, Int.reduceSub, Int.reduceMul, BNS, yieldA_at 4 54]) | refine WA_seq ?_ | refine WA_block ?_ | (refine WA_skip ?_; try simp only [go_sem]) | (refine WA_ret ?_; try simp only [go_sem]) | refine WA_ct rfl ?_ | refine WA_cf rfl ?_))
          refine WA_forP (fun k => [(11, .int .i64 (S0 + sumI (trmI m mx p q x) k)), (13, J), (14, J), (47, .int .i64 k), (48, J), (49, J), (50, J), (51, J), (52, J), (53, J), (54, J), (55, J), (56, J), (57, J), (58, J), (59, J), (60, J), (61, J), (62, J), (63, J), (64, J), (65, J), (66, J), (67, J), (68, J), (69, J), (70, J), (71, J), (72, J), (73, J), (74, J), (75, J), (76, J), (77, J), (78, J), (79, J), (80, J), (81, J), (82, J), (83, J), (84, J), (85, J), (86, J)]) (fun k => []) (16) ?_ ?_ ?_ <;> (try simp only [PTS])
          · (refine Drop_slots (by first | exact Nat.le_refl _ | (rw [List.length_append, rowsH_len]; omega)) ?_; focus ((try simp only [JL_same, JL_J, JL_nil, Int.reduceAdd, Nat.sub_sub, ICS, Bool.false_eq_true, if_false, if_true, show sumI (trmI m mx p q x) 0 = 0 from rfl, Int.add_zero]); (try exact JL_refl _)))
          · intro y hy
            have hrow := rowI_le m mx p q x y
            have hrow2 := rowI_le m mx p q x (y + 1)
            have hsy : sumI (trmI m mx p q x) (y + 1) = sumI (trmI m mx p q x) y + trmI m mx p q x y := rfl
            rw [hsy] at hrow2 ⊢
            have hay := andn_eq y hy q hq
            by_cases hm : x &&& p = x ∧ y &&& q = y
            · have hu : p ^^^ x < 16 := sub_lt x hx p hp
              have ht := trmI_yes (m := m) (a := mx) hu hy hm.1 hm.2
              have hw : 15 ^^^ (q ^^^ y) < 16 := flip_lt _ (sub_lt y hy q hq)
              have hor := andn_or q hq y hy hm.2
              have hfa := frF_at (m := m) (a := mx) (R := 15 ^^^ (q ^^^ y)) hx
              have hxx := bits_xor_N (a := p) (b := x) (by omega) (by omega)
              have hv4 := free_4 m mx (15 ^^^ (q ^^^ y)) x
              have hf4 : freeN m mx (15 ^^^ (q ^^^ y)) x ≤ 4 := by have := cn_le x 4; unfold freeN; omega
              have hsh := shl8 hf4
              have hsh2 := shl8' hf4
              have hwv := wrap_N (n := 256 ^ freeN m mx (15 ^^^ (q ^^^ y)) x) (by omega)
              have ho1 := ones_ac hu
              have ho2 := ones_ac hy
              have hc1 := cn_le (p ^^^ x) 4
              have hc2 := cn_le y 4
              rw [ht] at hrow2 ⊢
              generalize sumI (trmI m mx p q x) y = S1 at *
              generalize 15 ^^^ (q ^^^ y) = R at *
              generalize p ^^^ x = u at *
              generalize cn u 4 = c1 at *
              generalize cn y 4 = c2 at *
              by_cases hpar : (c1 + c2) % 2 = 1
              · have hp1 := parI (c1 + c2)
                have hp2 := parN (c1 + c2)
                rw [decide_eq_true hpar] at hp1 hp2
                rw [if_pos hpar] at hrow2 ⊢
                have hneg : IntKind.i64.wrap (0 - ((256 ^ freeN m mx R x : Nat) : Int)) = -1 * ((256 ^ freeN m mx R x : Nat) : Int) := by
                  rw [Int.zero_sub, Int.neg_mul, Int.one_mul]; exact wrap_i64 (by omega) (by omega)
                generalize 256 ^ freeN m mx R x = V at *
                (repeat (first | ((first | (refine And.intro ?_ ?_; focus exact PLA) | ((first | with_reducible apply callB_i | with_reducible apply callK_intro | with_reducible apply callQ_i); (focus (first | assumption | ((first | with_reducible apply ho1 | with_reducible apply ho2) <;> (first | assumption | rfl | (simp (disch := omega) only [go_sem]; first | done | rfl) | omega | decide | (simp; done))))); (try exact WP_au)) | refine WA_seq (WA_region ?_) | refine WA_region ?_ | refine WA_exit ?_); try simp (maxSteps := 1000000) (disch := first | omega | rfl | decide | (simp only [LX] <;> omega)) only [go_sem, Nat.reduceAdd, Int.reduceAdd, Int.reduceSub, Int.reduceMul, BNS, hax, hay, decide_eq_true hm.1, decide_eq_true hm.2, Bool.not_true, hor, hfa, hsh, hsh2, hwv, hxx, hp1, hp2, hneg, yieldA_at 4 54]) | refine WA_seq ?_ | refine WA_block ?_ | (refine WA_skip ?_; try simp only [go_sem]) | (refine WA_ret ?_; try simp only [go_sem]) | refine WA_ct rfl ?_ | refine WA_cf rfl ?_))
                (refine Drop_slots (by first | exact Nat.le_refl _ | (rw [List.length_append, rowsH_len]; omega)) ?_; focus ((try simp only [JL_same, JL_J, JL_nil, Int.reduceAdd, Nat.sub_sub, ICS, Bool.false_eq_true, if_false, if_true, Int.add_assoc]); (try exact JL_refl _)))
              · have hp1 := parI (c1 + c2)
                have hp2 := parN (c1 + c2)
                rw [decide_eq_false hpar] at hp1 hp2
                rw [if_neg hpar, Int.one_mul] at hrow2 ⊢
                generalize 256 ^ freeN m mx R x = V at *
                (repeat (first | ((first | (refine And.intro ?_ ?_; focus exact PLA) | ((first | with_reducible apply callB_i | with_reducible apply callK_intro | with_reducible apply callQ_i); (focus (first | assumption | ((first | with_reducible apply ho1 | with_reducible apply ho2) <;> (first | assumption | rfl | (simp (disch := omega) only [go_sem]; first | done | rfl) | omega | decide | (simp; done))))); (try exact WP_au)) | refine WA_seq (WA_region ?_) | refine WA_region ?_ | refine WA_exit ?_); try simp (maxSteps := 1000000) (disch := first | omega | rfl | decide | (simp only [LX] <;> omega)) only [go_sem, Nat.reduceAdd, Int.reduceAdd, Int.reduceSub, Int.reduceMul, BNS, hax, hay, decide_eq_true hm.1, decide_eq_true hm.2, Bool.not_true, hor, hfa, hsh, hsh2, hwv, hxx, hp1, hp2, yieldA_at 4 54]) | refine WA_seq ?_ | refine WA_block ?_ | (refine WA_skip ?_; try simp only [go_sem]) | (refine WA_ret ?_; try simp only [go_sem]) | refine WA_ct rfl ?_ | refine WA_cf rfl ?_))
                (refine Drop_slots (by first | exact Nat.le_refl _ | (rw [List.length_append, rowsH_len]; omega)) ?_; focus ((try simp only [JL_same, JL_J, JL_nil, Int.reduceAdd, Nat.sub_sub, ICS, Bool.false_eq_true, if_false, if_true, Int.add_assoc]); (try exact JL_refl _)))
            · have ht := trmI_no (m := m) (a := mx) hm
              rw [ht, Int.add_zero]
              by_cases h3 : x &&& p = x
              · have h4 : ¬ y &&& q = y := fun h5 => hm ⟨h3, h5⟩
                (repeat (first | ((first | (refine And.intro ?_ ?_; focus exact PLA) | refine WA_seq (WA_region ?_) | refine WA_region ?_ | refine WA_exit ?_); try simp (maxSteps := 1000000) (disch := first | omega | rfl | decide | (simp only [LX] <;> omega)) only [go_sem, Nat.reduceAdd, Int.reduceAdd, Int.reduceSub, Int.reduceMul, BNS, hax, hay, decide_eq_true h3, decide_eq_false h4, BNS, yieldA_at 4 54]) | refine WA_seq ?_ | refine WA_block ?_ | (refine WA_skip ?_; try simp only [go_sem]) | (refine WA_ret ?_; try simp only [go_sem]) | refine WA_ct rfl ?_ | refine WA_cf rfl ?_))
                (refine Drop_slots (by first | exact Nat.le_refl _ | (rw [List.length_append, rowsH_len]; omega)) ?_; focus ((try simp only [JL_same, JL_J, JL_nil, Int.reduceAdd, Nat.sub_sub, ICS, Bool.false_eq_true, if_false, if_true]); (try exact JL_refl _)))
              · (repeat (first | ((first | (refine And.intro ?_ ?_; focus exact PLA) | refine WA_seq (WA_region ?_) | refine WA_region ?_ | refine WA_exit ?_); try simp (maxSteps := 1000000) (disch := first | omega | rfl | decide | (simp only [LX] <;> omega)) only [go_sem, Nat.reduceAdd, Int.reduceAdd, Int.reduceSub, Int.reduceMul, BNS, hax, hay, decide_eq_false h3, Bool.not_false, yieldA_at 4 54]) | refine WA_seq ?_ | refine WA_block ?_ | (refine WA_skip ?_; try simp only [go_sem]) | (refine WA_ret ?_; try simp only [go_sem]) | refine WA_ct rfl ?_ | refine WA_cf rfl ?_))
                (refine Drop_slots (by first | exact Nat.le_refl _ | (rw [List.length_append, rowsH_len]; omega)) ?_; focus ((try simp only [JL_same, JL_J, JL_nil, Int.reduceAdd, Nat.sub_sub, ICS, Bool.false_eq_true, if_false, if_true]); (try exact JL_refl _)))
          · (repeat (first | ((first | (refine And.intro ?_ ?_; focus exact PLA) | refine WA_seq (WA_region ?_) | refine WA_region ?_ | refine WA_exit ?_); try simp (maxSteps := 1000000) (disch := first | omega | rfl | decide | (simp only [LX] <;> omega)) only [go_sem, Nat.reduceAdd, Int.reduceAdd, Int.reduceSub, Int.reduceMul, BNS, yieldA_at 4 54]) | refine WA_seq ?_ | refine WA_block ?_ | (refine WA_skip ?_; try simp only [go_sem]) | (refine WA_ret ?_; try simp only [go_sem]) | refine WA_ct rfl ?_ | refine WA_cf rfl ?_))
            (refine Drop_slots (by first | exact Nat.le_refl _ | (rw [List.length_append, rowsH_len]; omega)) ?_; focus ((try simp only [JL_same, JL_J, JL_nil, Int.reduceAdd, Nat.sub_sub, ICS, Bool.false_eq_true, if_false, if_true]); (try exact JL_refl _)))
        · rw [hmany]
          have hnn := many_nonneg m mx p q
          have hll2 : (patL m mx p 0).length = 0 := by rw [patL_zero]; rfl
          by_cases hpos : 0 < manyF m mx p q
          · have hne : (manyF m mx p q != 0) = true := by rw [bne_iff_ne]; omega
            rw [if_pos hpos]
            generalize manyF m mx p q = M at *
            by_cases hl : l = []
            · subst hl
              rw [← hT, ptl_nil, List.nil_append, ptl_cons (List.cons_ne_nil _ _)]
              have hat := outV_at h.length (paLen m mx) p ((rowsH h (paBl m mx) p).length + 4) ([] : List Int).length
              rw [if_neg (by simp)] at hat
              have hset := outV_set h.length (paLen m mx) p ((rowsH h (paBl m mx) p).length + 4) ([] : List Int).length
              (repeat (first | ((first | (refine And.intro ?_ ?_; focus exact PLA) | refine WA_seq (WA_region ?_) | refine WA_region ?_ | refine WA_exit ?_); try simp (maxSteps := 1000000) (disch := first | omega | rfl | decide | (simp only [LX] <;> omega)) only [go_sem, Nat.reduceAdd, Int.reduceAdd, Int.reduceSub, Int.reduceMul, BNS, hne, hat, appR_nil (show (1 : Nat) ≠ 0 by omega) (show 1 * 8 ≤ 140737488355328 by omega), yieldA_at 4 54]) | refine WA_seq ?_ | refine WA_block ?_ | (refine WA_skip ?_; try simp only [go_sem]) | (refine WA_ret ?_; try simp only [go_sem]) | refine WA_ct rfl ?_ | refine WA_cf rfl ?_))
              rw [hset _ 1 (by omega), show ([((q : Nat) : Int)] : List Int).length = 1 from rfl]
              (refine Drop_gc [0, 1, 2, 3, 5] (by first | omega | first | assumption | omega | (simp only [LRP]; omega)) (by assumption) (by decide) ?_ ?_; (focus (repeat (first | exact trivial | (refine And.intro ⟨_, rfl, ?_⟩ ?_; (focus first | (refine Fit_plain ?_; simp only [go_sem, ALS]; done) | exact Fit_nil rfl | exact Fit_dead | (refine Fit_eq ?_ ?_; (focus simp only [go_sem, ALS]); (focus (first | rfl | (simp only [ICS]; done) | (simp only [ICS]; rfl)))) | exact Fit_Vnil | (refine Fit_outV (i0 := 4) (by assumption) (by assumption) ?_ rfl; (focus (simp only [LAC]; omega))) | (refine Fit_outV (i0 := 0) (by assumption) (by assumption) ?_ rfl; (focus (simp only [LAC]; omega)))))))); (focus (repeat (first | exact JR_nil | refine JR_J ?_ | (refine JR_plain ?_ ?_; (focus first | rfl | (refine plain_agg ?_; simp only [go_sem, ALS]; done))) | ((first | refine JR_pt ?_ ?_ ?_ | refine JR_sl ?_ ?_ ?_); (focus first | (rw [rhoF_new0]; rfl) | (rw [rhoF_new]; rfl) | (rw [rhoF_old]; first | assumption | omega)); (focus first | assumption | omega | (simp only [LRP]; omega))) | (refine JR_plain' ?_ ?_ ?_; (focus first | rfl | (refine plain_agg ?_; simp only [go_sem, ALS]; done)); (focus (first | rfl | (simp only [ICS]; done) | (simp only [ICS]; rfl)))) | (refine JR_sl' ?_ ?_ ?_ ?_; (focus first | (rw [rhoF_new0]; rfl) | (rw [rhoF_new]; rfl) | (rw [rhoF_old]; first | assumption | omega)); (focus first | assumption | omega | (simp only [LRP]; omega)); (focus first | rfl | omega | (first | rfl | (simp only [ICS]; done) | (simp only [ICS]; rfl))))))))
            · rw [← hT, ptl_cons hl, ptl_cons (by simp)]
              have hat := outV_at h.length (paLen m mx) p ((rowsH h (paBl m mx) p).length + 4) l.length
              have hln : l.length ≠ 0 := fun e => hl (List.length_eq_zero_iff.1 e)
              have hset := outV_set h.length (paLen m mx) p ((rowsH h (paBl m mx) p).length + 4) l.length
              rw [if_pos hln] at hat
              (repeat (first | ((first | (refine And.intro ?_ ?_; focus exact PLA) | refine WA_seq (WA_region ?_) | refine WA_region ?_ | refine WA_exit ?_); try simp (maxSteps := 1000000) (disch := first | omega | rfl | decide | (simp only [LX] <;> omega)) only [go_sem, Nat.reduceAdd, Int.reduceAdd, Int.reduceSub, Int.reduceMul, BNS, hne, hat, lit1W, sub1, Il_snoc, yieldA_at 4 54]) | refine WA_seq ?_ | refine WA_block ?_ | (refine WA_skip ?_; try simp only [go_sem]) | (refine WA_ret ?_; try simp only [go_sem]) | refine WA_ct rfl ?_ | refine WA_cf rfl ?_))
              rw [hset _ _ (by omega), show (l ++ [((q : Nat) : Int)]).length = l.length + 1 from List.length_append]
              (refine Drop_gc [0, 1, 2, 3, 6] (by first | omega | first | assumption | omega | (simp only [LRP]; omega)) (by assumption) (by decide) ?_ ?_; (focus (repeat (first | exact trivial | (refine And.intro ⟨_, rfl, ?_⟩ ?_; (focus first | (refine Fit_plain ?_; simp only [go_sem, ALS]; done) | exact Fit_nil rfl | exact Fit_dead | (refine Fit_eq ?_ ?_; (focus simp only [go_sem, ALS]); (focus (first | rfl | (simp only [ICS]; done) | (simp only [ICS]; rfl)))) | exact Fit_Vnil | (refine Fit_outV (i0 := 4) (by assumption) (by assumption) ?_ rfl; (focus (simp only [LAC]; omega))) | (refine Fit_outV (i0 := 0) (by assumption) (by assumption) ?_ rfl; (focus (simp only [LAC]; omega)))))))); (focus (repeat (first | exact JR_nil | refine JR_J ?_ | (refine JR_plain ?_ ?_; (focus first | rfl | (refine plain_agg ?_; simp only [go_sem, ALS]; done))) | ((first | refine JR_pt ?_ ?_ ?_ | refine JR_sl ?_ ?_ ?_); (focus first | (rw [rhoF_new0]; rfl) | (rw [rhoF_new]; rfl) | (rw [rhoF_old]; first | assumption | omega)); (focus first | assumption | omega | (simp only [LRP]; omega))) | (refine JR_plain' ?_ ?_ ?_; (focus first | rfl | (refine plain_agg ?_; simp only [go_sem, ALS]; done)); (focus (first | rfl | (simp only [ICS]; done) | (simp only [ICS]; rfl)))) | (refine JR_sl' ?_ ?_ ?_ ?_; (focus first | (rw [rhoF_new0]; rfl) | (rw [rhoF_new]; rfl) | (rw [rhoF_old]; first | assumption | omega)); (focus first | assumption | omega | (simp only [LRP]; omega)); (focus first | rfl | omega | (first | rfl | (simp only [ICS]; done) | (simp only [ICS]; rfl))))))))
          · have hne : (manyF m mx p q != 0) = false := by rw [bne_eq_false_iff_eq]; omega
            rw [if_neg hpos, hT]
            (repeat (first | ((first | (refine And.intro ?_ ?_; focus exact PLA) | refine WA_seq (WA_region ?_) | refine WA_region ?_ | refine WA_exit ?_); try simp (maxSteps := 1000000) (disch := first | omega | rfl | decide | (simp only [LX] <;> omega)) only [go_sem, Nat.reduceAdd, Int.reduceAdd, Int.reduceSub, Int.reduceMul, BNS, hne, yieldA_at 4 54]) | refine WA_seq ?_ | refine WA_block ?_ | (refine WA_skip ?_; try simp only [go_sem]) | (refine WA_ret ?_; try simp only [go_sem]) | refine WA_ct rfl ?_ | refine WA_cf rfl ?_))
            (refine Drop_slots (by first | exact Nat.le_refl _ | (rw [List.length_append, rowsH_len]; omega)) ?_; focus ((try simp only [JL_same, JL_J, JL_nil, Int.reduceAdd, Nat.sub_sub, ICS, Bool.false_eq_true, if_false, if_true]); (try exact JL_refl _)))
      · have e1 := paBl_is m mx p
        have e2 := paLen_is m mx p
        have hnz := patL_ne m mx hp
        have ho : outV h.length (paLen m mx) (p + 1) 0 0 = outV h.length (paLen m mx) p ((rowsH h (paBl m mx) p).length + 0) (patL m mx p 16).length := by
          rcases outV_next h.length (paLen m mx) p 0 with e | e
          · rw [← e, Nat.add_zero, hll, e2]
          · rw [e2] at e; exact absurd (List.length_eq_zero_iff.1 e) hnz
        rw [ptl_cons hnz, rowsH_app, rowsH_lenS, e1, ho]
        simp only [Nat.add_assoc, Nat.reduceAdd]
        generalize patL m mx p 16 = l at *
        (repeat (first | ((first | (refine And.intro ?_ ?_; focus exact PLA) | refine WA_seq (WA_region ?_) | refine WA_region ?_ | refine WA_exit ?_); try simp (maxSteps := 1000000) (disch := first | omega | rfl | decide | (simp only [LX] <;> omega)) only [go_sem, Nat.reduceAdd, Int.reduceAdd, Int.reduceSub, Int.reduceMul, BNS, yieldA_at 4 54]) | refine WA_seq ?_ | refine WA_block ?_ | (refine WA_skip ?_; try simp only [go_sem]) | (refine WA_ret ?_; try simp only [go_sem]) | refine WA_ct rfl ?_ | refine WA_cf rfl ?_))
        (refine Drop_gc [4, 0, 1, 2, 3] (by first | omega | first | assumption | omega | (simp only [LRP]; omega)) (by assumption) (by decide) ?_ ?_; (focus (repeat (first | exact trivial | (refine And.intro ⟨_, rfl, ?_⟩ ?_; (focus first | (refine Fit_plain ?_; simp only [go_sem, ALS]; done) | exact Fit_nil rfl | exact Fit_dead | (refine Fit_eq ?_ ?_; (focus simp only [go_sem, ALS]); (focus (first | rfl | (simp only [ICS]; done) | (simp only [ICS]; rfl)))) | exact Fit_Vnil | (refine Fit_outV (i0 := 4) (by assumption) (by assumption) ?_ rfl; (focus (simp only [LAC]; omega))) | (refine Fit_outV (i0 := 0) (by assumption) (by assumption) ?_ rfl; (focus (simp only [LAC]; omega)))))))); (focus (repeat (first | exact JR_nil | refine JR_J ?_ | (refine JR_plain ?_ ?_; (focus first | rfl | (refine plain_agg ?_; simp only [go_sem, ALS]; done))) | ((first | refine JR_pt ?_ ?_ ?_ | refine JR_sl ?_ ?_ ?_); (focus first | (rw [rhoF_new0]; rfl) | (rw [rhoF_new]; rfl) | (rw [rhoF_old]; first | assumption | omega)); (focus first | assumption | omega | (simp only [LRP]; omega))) | (refine JR_plain' ?_ ?_ ?_; (focus first | rfl | (refine plain_agg ?_; simp only [go_sem, ALS]; done)); (focus (first | rfl | (simp only [ICS]; done) | (simp only [ICS]; rfl)))) | (refine JR_sl' ?_ ?_ ?_ ?_; (focus first | (rw [rhoF_new0]; rfl) | (rw [rhoF_new]; rfl) | (rw [rhoF_old]; first | assumption | omega)); (focus first | assumption | omega | (simp only [LRP]; omega)); (focus first | rfl | omega | (first | rfl | (simp only [ICS]; done) | (simp only [ICS]; rfl))))))))
    · (repeat (first | ((first | (refine And.intro ?_ ?_; focus exact PLA) | refine WA_seq (WA_region ?_) | refine WA_region ?_ | refine WA_exit ?_); try simp (maxSteps := 1000000) (disch := first | omega | rfl | decide | (simp only [LX] <;> omega)) only [go_sem, Nat.reduceAdd, Int.reduceAdd, Int.reduceSub, Int.reduceMul, BNS, yieldA_at 4 54]) | refine WA_seq ?_ | refine WA_block ?_ | (refine WA_skip ?_; try simp only [go_sem]) | (refine WA_ret ?_; try simp only [go_sem]) | refine WA_ct rfl ?_ | refine WA_cf rfl ?_))
      rw [outV_end, rowsH_cut]
      ((first | refine ret_nA ?_ | refine ret_sA ?_ | refine ret_fA ?_); simp (maxSteps := 1000000) (disch := first | omega | rfl | decide | (simp only [LX] <;> omega)) only [go_sem, Nat.reduceAdd, Int.reduceAdd, Int.reduceSub, Int.reduceMul, BNS]; try rfl)
      show loadRow (h ++ ((List.range 16).map (paBl m mx) ++ [⟨Bs 16 mx, true⟩, ⟨Vs 16 (vsp h.length (paLen m mx)), true⟩, ⟨Is 256 (frF m mx), true⟩, ⟨Vs 16 (vsp h.length (paLen m mx)), true⟩]))[(rowsH h (paBl m mx) 16).length + 1]? 0 16 = _
      rw [← rowsH_cut, List.getElem?_append_right (Nat.le_add_right _ _), Nat.add_sub_cancel_left]
      exact loadV _ _

end Go.Proofs.YtenkjbkcdcionaaGreat
/- PatternsOf: the program. -/
namespace Go.Proofs.YtenkjbkcdcionaaGreat
set_option linter.unusedSimpArgs false
set_option linter.unusedVariables false
set_option maxRecDepth 20000
set_option maxHeartbeats 1000000
open Go.Abs

theorem cloneV_ac {h : List Blk} {b n : Nat} {f : Nat → Value} {r : Bool} (hb : h[b]? = some ⟨Vs n f, r⟩) (hn : n ≤ 1000) : AC Tryz.prog 48 [sl b 0 n 1] h (sl (h.length + 1) 0 n 1) (h ++ [dead, ⟨Vs n f, true⟩]) := by
  have hbl := blt hb
  (refine AC_begin (fun _ _ => Tryz.call48 _ _) Tryz.func48 rfl Tryz.ntmps48 Tryz.results48 (fun hwf => ?_); simp only [LCN, Nat.reduceAdd, Nat.reduceSub, List.replicate])
  (refine sN (look_old hb) ?_)
  (exact sR0)

theorem grV_rows6 {h t1 t2 : List Blk} {R : Nat → Blk} {N c : Nat} {len : Nat → Nat} {F : Nat → Nat → Int} (hs : (t1 ++ t2)[t1.length + c]? = some ⟨Vs N (vsp h.length len), true⟩) (hR : ∀ j, j < N → R j = ⟨Is (len j) (F j), true⟩) :
    GrV h (rowsH h R N ++ t1 ++ t2) ((rowsH h R N ++ t1).length + c) N (fun j => h.length + j) len F := by
  rw [List.append_assoc, List.length_append, Nat.add_assoc]; exact grV_rows hs hR
attribute [local irreducible] paBl paLen patL patR manyF vsp
theorem paoI_no {m r : Int} {bx mx pl : Nat → UInt8} (hc : cipB m bx mx pl r = false) (h : List Blk) : AC Tryz.prog 17 [.agg (Ci m bx mx pl r).toArray] h (.tuple #[.slice none 0 0, .int .i64 1]) h := by
  (refine AC_begin (fun _ _ => Tryz.call17 _ _) Tryz.func17 rfl Tryz.ntmps17 Tryz.results17 (fun hwf => ?_); simp only [LCN, Nat.reduceAdd, Nat.reduceSub, List.replicate])
  (refine sW @hc @cipI_ac ?_)
  (exact sR0)
theorem paoI_op {m : Nat} {r : Int} {bx mx pl : Nat → UInt8} (h0 : 256 ≤ m) (h1 : m < 512) (hf : fieldB m = true) (hc : cipB m bx mx pl r = true) (h : List Blk) :
    ∃ (H : List Blk) (b : Nat) (g : Nat → Nat), GrV h H b 16 g (paLen m mx) (paF m mx) ∧ AC Tryz.prog 17 [.agg (Ci m bx mx pl r).toArray] h (.tuple #[sl b 0 16 1, .int .i64 0]) H := by
  obtain ⟨H1, V, hp, hH1, hV⟩ : ∃ (H1 : List Blk) (V : Nat → Value), AC Tryz.prog 39 [.int .i64 m, .agg (Bs 16 mx).toArray] (h ++ [⟨Ci m bx mx pl r, true⟩]) (.agg (Vs 16 V).toArray) H1 ∧
      H1 = rowsH (h ++ [⟨Ci m bx mx pl r, true⟩]) (paBl m mx) 16 ++ [⟨Bs 16 mx, true⟩, ⟨Vs 16 (vsp (h ++ [(⟨Ci m bx mx pl r, true⟩ : Blk)]).length (paLen m mx)), true⟩, ⟨Is 256 (frF m mx), true⟩, ⟨Vs 16 (vsp (h ++ [(⟨Ci m bx mx pl r, true⟩ : Blk)]).length (paLen m mx)), true⟩] ∧
      V = vsp (h ++ [(⟨Ci m bx mx pl r, true⟩ : Blk)]).length (paLen m mx) := ⟨_, _, patI_ac h0 h1 hf mx _, rfl, rfl⟩
  have hG : GrV h (H1 ++ [⟨Vs 16 V, true⟩, dead, ⟨Vs 16 V, true⟩]) (H1.length + 2) 16 (fun j => (h ++ [(⟨Ci m bx mx pl r, true⟩ : Blk)]).length + j) (paLen m mx) (paF m mx) := by
    rw [hH1, hV]
    refine GrV.weak (L := [⟨Ci m bx mx pl r, true⟩]) (grV_rows6 (c := 2) ?_ fun j _ => paBl_Is m mx j)
    rfl
  refine ⟨_, _, _, hG, ?_⟩
  have hlen : h.length ≤ (H1 ++ [⟨Vs 16 V, true⟩, dead, ⟨Vs 16 V, true⟩]).length := by obtain ⟨A, hA⟩ := hG.app; rw [hA]; simp
  have hcl : AC Tryz.prog 48 [sl H1.length 0 16 1] (H1 ++ [⟨Vs 16 V, true⟩]) (sl (H1.length + 2) 0 16 1) (H1 ++ [⟨Vs 16 V, true⟩, dead, ⟨Vs 16 V, true⟩]) := by
    have := cloneV_ac (h := H1 ++ [⟨Vs 16 V, true⟩]) (b := H1.length) (n := 16) (f := V) (r := true) (by simp) (by omega)
    simpa using this
  clear hH1 hV
  (refine AC_begin (fun _ _ => Tryz.call17 _ _) Tryz.func17 rfl Tryz.ntmps17 Tryz.results17 (fun hwf => ?_); simp only [LCN, Nat.reduceAdd, Nat.reduceSub, List.replicate])
  (refine sW @hc (And.intro @cipI_ac (And.intro @hp @hcl)) ?_)
  refine ret_full (by first | exact .inr rfl | exact .inl rfl) hlen ?_
  simp (maxSteps := 1000000) (disch := first | omega | rfl | decide | (simp only [LX] <;> omega)) only [go_sem, Nat.reduceAdd, Int.reduceAdd, Int.reduceSub, Int.reduceMul, BNS]
  try rfl

end Go.Proofs.YtenkjbkcdcionaaGreat
/- PatternsOf: the law. -/
namespace Go.Proofs.YtenkjbkcdcionaaGreat
set_option linter.unusedSimpArgs false
set_option linter.unusedVariables false
set_option maxRecDepth 20000
set_option maxHeartbeats 1000000
open Go.Abs

theorem paLen_le (m : Nat) (a : Nat → UInt8) (j : Nat) : paLen m a j ≤ 1000 := by
  rw [paLen_is]; have := patL_le m a j 16; omega
attribute [local irreducible] paBl paLen patL patR manyF vsp paF
end Go.Proofs.YtenkjbkcdcionaaGreat
/- Least activity: bits of sets, sets moved. -/
namespace Go.Proofs.YtenkjbkcdcionaaGreat
set_option linter.unusedSimpArgs false
set_option linter.unusedVariables false
set_option maxRecDepth 20000
set_option maxHeartbeats 1000000
open Go.Abs

theorem popP_far (x : Nat) : ∀ k, popP x (blen x + k) = popP x (blen x)
  | 0 => rfl
  | k + 1 => by
    rw [show blen x + (k + 1) = blen x + k + 1 by omega, popP, popP_far x k, Nat.shiftRight_add, blen_done, Nat.zero_shiftRight]
    rfl
theorem popP_16 {x : Nat} (hx : x < 65536) : popP x (blen x) = popP x 16 := by
  have hb : blen x ≤ 16 := blen_lt (by omega)
  have := popP_far x (16 - blen x)
  rw [show blen x + (16 - blen x) = 16 by omega] at this
  exact this.symm
theorem bitsS_ac {x : Nat} (hx : x < 65536) (h : List Blk) : AC Tryz.prog 46 [.int .i64 x] h (.int .i64 ((popP x 16 : Nat) : Int)) h := by
  have hbl : blen x ≤ 16 := blen_lt (by omega)
  (refine AC_begin (fun _ _ => Tryz.call46 _ _) Tryz.func46 rfl Tryz.ntmps46 Tryz.results46 (fun hwf => ?_); simp only [LCN, Nat.reduceAdd, Nat.reduceSub, List.replicate])
  (refine sN0 ?_)
  refine WA_forH (fun k => [(0, .int .i64 ((x >>> k : Nat))), (3, .int .i64 ((popP x k : Nat) : Int)), (4, J), (5, J), (6, J), (7, J), (8, J), (9, J), (10, J), (11, J)]) (fun k => h) (blen x) ?_ ?_ ?_ <;> (try simp only [PTS])
  · (refine Drop_slots (by first | exact Nat.le_refl _ | simp) ?_; focus ((try simp only [JL_same, JL_J, JL_nil, Int.reduceAdd, Nat.sub_sub, ICS, Bool.false_eq_true, if_false, if_true, popP, Nat.shiftRight_zero]); (try exact JL_refl _)))
  · intro j hj
    have hpp := blen_pos hj
    have hs := Nat.shiftRight_le x j
    have hpl := popP_le x j
    have hm := Nat.mod_lt (x >>> j) (show 0 < 2 by omega)
    have hww := wrap_N (n := x >>> (j + 1)) (Nat.lt_of_le_of_lt (Nat.shiftRight_le x (j + 1)) (by omega))
    (refine sN @hww ?_)
    (refine Drop_slots (by first | exact Nat.le_refl _ | simp) ?_; focus ((try simp only [JL_same, JL_J, JL_nil, Int.reduceAdd, Nat.sub_sub, ICS, Bool.false_eq_true, if_false, if_true, popP]); (try exact JL_refl _)))
  · rw [popP_16 hx]
    (refine sN @blen_done ?_)
    (exact sR0)

end Go.Proofs.YtenkjbkcdcionaaGreat
/- Least activity: sets moved. -/
namespace Go.Proofs.YtenkjbkcdcionaaGreat
set_option linter.unusedSimpArgs false
set_option linter.unusedVariables false
set_option maxRecDepth 20000
set_option maxHeartbeats 1000000
open Go.Abs

theorem bit_shl {v i : Nat} (hv : v ≤ 1) (h : i ≤ 60) : IntKind.i64.wrap (((v : Nat) : Int) * 2 ^ min i 64) = ((v <<< i : Nat) : Int) := by
  have hp : 2 ^ i ≤ 2 ^ 60 := Nat.pow_le_pow_right (by omega) h
  rw [Nat.min_eq_left (by omega), pow_cast, ← Int.natCast_mul, Nat.shiftLeft_eq]
  refine wrap_N ?_
  exact Nat.lt_of_le_of_lt (Nat.mul_le_mul hv hp) (by omega)
theorem shr_any {x : Nat} (hx : x < 65536) (p : Nat) : ((x : Nat) : Int).fdiv (2 ^ min p 64) = ((x >>> p : Nat) : Int) := by
  rw [pow_cast, Int.fdiv_eq_ediv_of_nonneg _ (Int.natCast_nonneg _), ← Int.natCast_ediv, Nat.shiftRight_eq_div_pow]
  by_cases hp : p ≤ 64
  · rw [Nat.min_eq_left hp]
  · have h2 : 2 ^ 64 ≤ 2 ^ p := Nat.pow_le_pow_right (by omega) (by omega)
    rw [Nat.min_eq_right (by omega), Nat.div_eq_of_lt (by omega), Nat.div_eq_of_lt (by omega)]
theorem mvM_set (pl : Nat → UInt8) (s i : Nat) : mvM pl s i ||| ((s >>> (pl i).toNat &&& 1) <<< i) = mvM pl s (i + 1) := rfl
attribute [local irreducible] mvM
theorem movI_ac (pl : Nat → UInt8) {x : Nat} (hx : x < 65536) (h : List Blk) : AC Tryz.prog 42 [.agg (Bs 16 pl).toArray, .int .i64 x] h (.int .i64 ((mvM pl x 16 : Nat) : Int)) h := by
  (refine AC_begin (fun _ _ => Tryz.call42 _ _) Tryz.func42 rfl Tryz.ntmps42 Tryz.results42 (fun hwf => ?_); simp only [LCN, Nat.reduceAdd, Nat.reduceSub, List.replicate])
  (refine sN0 ?_)
  refine WA_forP (fun k => [(5, .int .i64 ((mvM pl x k : Nat) : Int)), (6, J), (7, J), (9, .int .i64 k), (10, J), (11, J), (12, J), (13, J), (14, J), (15, J), (16, J), (17, J), (18, J), (19, J), (20, J), (21, J)]) (fun k => [(0, ⟨Bs 16 pl, true⟩)]) (16) ?_ ?_ ?_ <;> (try simp only [PTS])
  · (refine Drop_slots (by first | exact Nat.le_refl _ | simp) ?_; focus ((try simp only [JL_same, JL_J, JL_nil, Int.reduceAdd, Nat.sub_sub, ICS, Bool.false_eq_true, if_false, if_true, mvM]); (try exact JL_refl _)))
  · intro i hi
    have hs := Nat.shiftRight_le x (pl i).toNat
    have hv : x >>> (pl i).toNat &&& 1 ≤ 1 := Nat.and_le_right
    have h1 : bits .and .i64 ((x >>> (pl i).toNat : Nat) : Int) 1 = ((x >>> (pl i).toNat &&& 1 : Nat) : Int) := bits_and_N (a := x >>> (pl i).toNat) (b := 1) (by omega) (by omega)
    have h0 := shr_any hx (pl i).toNat
    have h2 := bit_shl hv (show i ≤ 60 by omega)
    have hm := Nat.lt_of_lt_of_le (mvM_lt pl x i) (Nat.pow_le_pow_right (n := 2) (by omega) (show i ≤ 16 by omega))
    have hm2 := Nat.lt_of_lt_of_le (mvM_lt pl x (i + 1)) (Nat.pow_le_pow_right (n := 2) (by omega) (show i + 1 ≤ 16 by omega))
    have hq : (x >>> (pl i).toNat &&& 1) <<< i < 9223372036854775808 := by
      rw [Nat.shiftLeft_eq]
      exact Nat.lt_of_le_of_lt (Nat.mul_le_mul hv (Nat.pow_le_pow_right (n := 2) (by omega) (show i ≤ 60 by omega))) (by omega)
    have h3 := bits_or_N (a := mvM pl x i) (b := (x >>> (pl i).toNat &&& 1) <<< i) (by omega) hq
    rw [mvM_set] at h3
    have h4 := wrap_N hq
    (refine sN (And.intro @h0 (And.intro @h1 (And.intro @h2 (And.intro @h4 @h3)))) ?_)
    (exact sS0)
  · (refine sN0 ?_)
    (exact sR0)

end Go.Proofs.YtenkjbkcdcionaaGreat
/- Least activity: the least of a list. -/
namespace Go.Proofs.YtenkjbkcdcionaaGreat
set_option linter.unusedSimpArgs false
set_option linter.unusedVariables false
set_option maxRecDepth 20000
set_option maxHeartbeats 1000000
open Go.Abs

def mnF (g : Nat → Int) : Nat → Int
  | 0 => g 0
  | k + 1 => if g (k + 1) < mnF g k then g (k + 1) else mnF g k
theorem min_if (x y : Int) : (if y < x then y else x) = min x y := by split <;> omega
theorem mnF_le (g : Nat → Int) : ∀ n k, k ≤ n → mnF g n ≤ g k
  | 0, k, h => by rw [show k = 0 by omega]; exact Int.le_refl _
  | n + 1, k, h => by
    unfold mnF
    by_cases e : k = n + 1
    · subst e; split <;> omega
    · have := mnF_le g n k (by omega)
      split <;> omega
theorem minI_ac {h : List Blk} {b n : Nat} {g : Nat → Int} {r : Bool} (hb : h[b]? = some ⟨Is (n + 1) g, r⟩) (hn : n + 1 ≤ 65536) : AC Tryz.prog 44 [sl b 0 (n + 1) 1] h (.int .i64 (mnF g n)) h := by
  have hbl := blt hb
  (refine AC_begin (fun _ _ => Tryz.call44 _ _) Tryz.func44 rfl Tryz.ntmps44 Tryz.results44 (fun hwf => ?_); simp only [LCN, Nat.reduceAdd, Nat.reduceSub, List.replicate])
  (refine sN @hb ?_)
  refine WA_forH (fun k => [(3, .int .i64 (mnF g k)), (4, .int .i64 ((k + 1 : Nat) : Int)), (12, J), (13, J), (14, J), (15, J), (16, J), (17, J), (18, J), (19, J), (20, J), (21, J), (22, J), (23, J)]) (fun k => h) (n) ?_ ?_ ?_ <;> (try simp only [PTS])
  · (refine Drop_slots (by first | exact Nat.le_refl _ | simp) ?_; focus ((try simp only [JL_same, JL_J, JL_nil, Int.reduceAdd, Nat.sub_sub, ICS, Bool.false_eq_true, if_false, if_true, mnF]); (try exact JL_refl _)))
  · intro k hk
    (refine sN @hb ?_)
    (refine Drop_slots (by first | exact Nat.le_refl _ | simp) ?_; focus ((try simp only [JL_same, JL_J, JL_nil, Int.reduceAdd, Nat.sub_sub, ICS, Bool.false_eq_true, if_false, if_true, mnF]); (try exact JL_refl _)))
  · (refine sN0 ?_)
    (exact sR0)

end Go.Proofs.YtenkjbkcdcionaaGreat
/- Least activity: ones of a set, counted by the library. -/
namespace Go.Proofs.YtenkjbkcdcionaaGreat
set_option linter.unusedSimpArgs false
set_option linter.unusedVariables false
set_option maxRecDepth 20000
set_option maxHeartbeats 1000000
open Go.Abs

def oc1 (x : Nat) : Nat := (x >>> 1 &&& 6148914691236517205) + (x &&& 6148914691236517205)
def oc2 (x : Nat) : Nat := (x >>> 2 &&& 3689348814741910323) + (x &&& 3689348814741910323)
def oc3 (x : Nat) : Nat := (x >>> 4 + x) &&& 1085102592571150095
def oc4 (x : Nat) : Nat := x + x >>> 8
def oc5 (x : Nat) : Nat := x + x >>> 16
def oc6 (x : Nat) : Nat := x + x >>> 32
def oc (x : Nat) : Nat := oc6 (oc5 (oc4 (oc3 (oc2 (oc1 x))))) &&& 127
def allO (f : Nat → Bool) : Nat → Bool
  | 0 => true
  | k + 1 => match f k with | true => allO f k | false => false
theorem allO_at {f : Nat → Bool} : ∀ {n : Nat}, allO f n = true → ∀ k, k < n → f k = true
  | 0, _, k, hk => absurd hk (Nat.not_lt_zero k)
  | n + 1, h, k, hk => by
    unfold allO at h
    cases e : f n <;> rw [e] at h
    · exact absurd h (by simp)
    · by_cases e2 : k = n
      · rw [e2, e]
      · exact allO_at (n := n) h k (by omega)
theorem oc_8 : allO (fun a => allO (fun b => Nat.beq (oc (Nat.add (Nat.mul 256 a) b)) (Nat.add (oc a) (oc b))) 256) 256 = true := by decide +kernel
theorem oc_b : allO (fun b => Nat.beq (oc b) (popP b 8)) 256 = true := by decide +kernel
theorem popP_cut {a b : Nat} (hb : b < 256) : popP (256 * a + b) 16 = popP a 8 + popP b 8 := by
  simp only [popP, Nat.shiftRight_eq_div_pow, Nat.reducePow]
  rw [show (256 * a + b) / 1 % 2 = b / 1 % 2 by omega]
  rw [show (256 * a + b) / 2 % 2 = b / 2 % 2 by omega]
  rw [show (256 * a + b) / 4 % 2 = b / 4 % 2 by omega]
  rw [show (256 * a + b) / 8 % 2 = b / 8 % 2 by omega]
  rw [show (256 * a + b) / 16 % 2 = b / 16 % 2 by omega]
  rw [show (256 * a + b) / 32 % 2 = b / 32 % 2 by omega]
  rw [show (256 * a + b) / 64 % 2 = b / 64 % 2 by omega]
  rw [show (256 * a + b) / 128 % 2 = b / 128 % 2 by omega]
  rw [show (256 * a + b) / 256 = a / 1 by omega]
  rw [show (256 * a + b) / 512 = a / 2 by omega]
  rw [show (256 * a + b) / 1024 = a / 4 by omega]
  rw [show (256 * a + b) / 2048 = a / 8 by omega]
  rw [show (256 * a + b) / 4096 = a / 16 by omega]
  rw [show (256 * a + b) / 8192 = a / 32 by omega]
  rw [show (256 * a + b) / 16384 = a / 64 by omega]
  rw [show (256 * a + b) / 32768 = a / 128 by omega]
  generalize a / 1 % 2 = a0
  generalize a / 2 % 2 = a1
  generalize a / 4 % 2 = a2
  generalize a / 8 % 2 = a3
  generalize a / 16 % 2 = a4
  generalize a / 32 % 2 = a5
  generalize a / 64 % 2 = a6
  generalize a / 128 % 2 = a7
  generalize b / 1 % 2 = b0
  generalize b / 2 % 2 = b1
  generalize b / 4 % 2 = b2
  generalize b / 8 % 2 = b3
  generalize b / 16 % 2 = b4
  generalize b / 32 % 2 = b5
  generalize b / 64 % 2 = b6
  generalize b / 128 % 2 = b7
  omega
theorem oc_pop {x : Nat} (hx : x < 65536) : oc x = popP x 16 := by
  have h := Nat.eq_of_beq_eq_true (allO_at (allO_at oc_8 (x / 256) (by omega)) (x % 256) (Nat.mod_lt _ (by omega)))
  have ha := Nat.eq_of_beq_eq_true (allO_at oc_b (x / 256) (by omega))
  have hb := Nat.eq_of_beq_eq_true (allO_at oc_b (x % 256) (Nat.mod_lt _ (by omega)))
  have e : 256 * (x / 256) + x % 256 = x := by omega
  have hc := popP_cut (a := x / 256) (b := x % 256) (Nat.mod_lt _ (by omega))
  rw [e] at hc
  have h' : oc x = Nat.add (oc (x / 256)) (oc (x % 256)) := by
    have : Nat.add (Nat.mul 256 (x / 256)) (x % 256) = x := e
    rw [this] at h; exact h
  rw [h', ha, hb, hc]; rfl
theorem bits_and_U {a b : Nat} (ha : a < 18446744073709551616) (hb : b < 18446744073709551616) : bits .and .u64 (a : Int) (b : Int) = ((a &&& b : Nat) : Int) := by
  have hx : a &&& b < 2 ^ 64 := Nat.and_lt_two_pow _ (by omega)
  show IntKind.u64.wrap ((BitVec.ofInt 64 (a : Int) &&& BitVec.ofInt 64 (b : Int)).toNat : Int) = _
  rw [BitVec.toNat_and, ofInt64_nat (by omega), ofInt64_nat (by omega), wrap_u64 (by omega) (by omega)]
theorem bits_and_LU {a n : Nat} (ha : a < 18446744073709551616) (hb : OfNat.ofNat n < 18446744073709551616) : bits .and .u64 (a : Int) (no_index (OfNat.ofNat n)) = ((a &&& OfNat.ofNat n : Nat) : Int) := bits_and_U (b := OfNat.ofNat n) ha hb
theorem wrap_U {n : Nat} (h : n < 18446744073709551616) : IntKind.u64.wrap (n : Int) = n := wrap_u64 (by omega) (by omega)
theorem and_le (a b : Nat) : a &&& b ≤ a := Nat.and_le_left
theorem oc1_le (x : Nat) : oc1 x ≤ 2 * x := by
  have h1 := and_le (x >>> 1) 6148914691236517205
  have h2 := and_le x 6148914691236517205
  have h3 := Nat.shiftRight_le x 1
  unfold oc1; omega
theorem oc2_le (x : Nat) : oc2 x ≤ 2 * x := by
  have h1 := and_le (x >>> 2) 3689348814741910323
  have h2 := and_le x 3689348814741910323
  have h3 := Nat.shiftRight_le x 2
  unfold oc2; omega
theorem oc3_le (x : Nat) : oc3 x ≤ 2 * x := by
  have h1 := and_le (x >>> 4 + x) 1085102592571150095
  have h3 := Nat.shiftRight_le x 4
  unfold oc3; omega
theorem oc4_le (x : Nat) : oc4 x ≤ 2 * x := by
  have h3 := Nat.shiftRight_le x 8
  unfold oc4; omega
theorem oc5_le (x : Nat) : oc5 x ≤ 2 * x := by
  have h3 := Nat.shiftRight_le x 16
  unfold oc5; omega
theorem oc6_le (x : Nat) : oc6 x ≤ 2 * x := by
  have h3 := Nat.shiftRight_le x 32
  unfold oc6; omega
theorem st1 {x : Nat} (hx : x < 65536) : IntKind.u64.wrap (bits .and .u64 ((x >>> 1 : Nat) : Int) 6148914691236517205 + bits .and .u64 (x : Int) 6148914691236517205) = ((oc1 x : Nat) : Int) := by
  have h3 := Nat.shiftRight_le x 1
  have hl := oc1_le x
  rw [bits_and_LU (a := x >>> 1) (n := 6148914691236517205) (by omega) (by decide), bits_and_LU (a := x) (n := 6148914691236517205) (by omega) (by decide), ← Int.natCast_add]
  exact wrap_U (n := oc1 x) (by omega)
theorem st2 {x : Nat} (hx : x < 1000000) : IntKind.u64.wrap (bits .and .u64 ((x >>> 2 : Nat) : Int) 3689348814741910323 + bits .and .u64 (x : Int) 3689348814741910323) = ((oc2 x : Nat) : Int) := by
  have h3 := Nat.shiftRight_le x 2
  have hl := oc2_le x
  rw [bits_and_LU (a := x >>> 2) (n := 3689348814741910323) (by omega) (by decide), bits_and_LU (a := x) (n := 3689348814741910323) (by omega) (by decide), ← Int.natCast_add]
  exact wrap_U (n := oc2 x) (by omega)
theorem st3 {x : Nat} (hx : x < 1000000) : bits .and .u64 ((x >>> 4 + x : Nat) : Int) 1085102592571150095 = ((oc3 x : Nat) : Int) := by
  have h3 := Nat.shiftRight_le x 4
  exact bits_and_LU (a := x >>> 4 + x) (n := 1085102592571150095) (by omega) (by decide)
theorem oc64_ac {x : Nat} (hx : x < 65536) (h : List Blk) : AC Tryz.prog 81 [.int .u64 x] h (.int .i64 ((popP x 16 : Nat) : Int)) h := by
  have l1 := oc1_le x
  have l2 := oc2_le (oc1 x)
  have l3 := oc3_le (oc2 (oc1 x))
  have l4 := oc4_le (oc3 (oc2 (oc1 x)))
  have l5 := oc5_le (oc4 (oc3 (oc2 (oc1 x))))
  have l6 := oc6_le (oc5 (oc4 (oc3 (oc2 (oc1 x)))))
  have hp : oc6 (oc5 (oc4 (oc3 (oc2 (oc1 x))))) &&& 127 = popP x 16 := oc_pop hx
  simp only [oc6, oc5, oc4] at hp l4 l5 l6
  have s1 := st1 hx
  have s2 := st2 (x := oc1 x) (by omega)
  have s3 := st3 (x := oc2 (oc1 x)) (by omega)
  generalize oc3 (oc2 (oc1 x)) = y3 at *
  generalize oc2 (oc1 x) = y2 at *
  generalize oc1 x = y1 at *
  (refine AC_begin (fun _ _ => Tryz.call81 _ _) Tryz.func81 rfl Tryz.ntmps81 Tryz.results81 (fun hwf => ?_); simp only [LCN, Nat.reduceAdd, Nat.reduceSub, List.replicate])
  (refine sN (And.intro @s1 (And.intro @s2 (And.intro @s3 @hp))) ?_)
  (exact sR @hp)

theorem ocU_ac {x : Nat} (hx : x < 65536) (h : List Blk) : AC Tryz.prog 40 [.int .u64 x] h (.int .i64 ((popP x 16 : Nat) : Int)) h := by
  (refine AC_begin (fun _ _ => Tryz.call40 _ _) Tryz.func40 rfl Tryz.ntmps40 Tryz.results40 (fun hwf => ?_); simp only [LCN, Nat.reduceAdd, Nat.reduceSub, List.replicate])
  (refine sW0 (oc64_ac hx) ?_)
  (exact sR0)

end Go.Proofs.YtenkjbkcdcionaaGreat
/- Least activity: a list of one number many times. -/
namespace Go.Proofs.YtenkjbkcdcionaaGreat
set_option linter.unusedSimpArgs false
set_option linter.unusedVariables false
set_option maxRecDepth 20000
set_option maxHeartbeats 1000000
open Go.Abs

def rpF (c : Int) (n : Nat) : Nat → Int := fun i => if i < n then c else 0
theorem rpF_lt {c : Int} {n i : Nat} (h : i < n) : rpF c n i = c := if_pos h
theorem rpF_ge {c : Int} {n i : Nat} (h : ¬ i < n) : rpF c n i = 0 := if_neg h
theorem rp_step {c : Int} {N n : Nat} (h : n + n ≤ N) : splice (Is N (rpF c n)) n (Is n fun i => rpF c n i) = Is N (rpF c (n + n)) := by
  apply List.ext_getElem?
  intro i
  rw [splice_get (by rw [Is_length, Is_length]; exact h), Is_length]
  by_cases hi : i < N
  · rw [Is_get hi, Is_get hi]
    by_cases h1 : n ≤ i ∧ i < n + n
    · rw [if_pos h1, Is_get (by omega), rpF_lt (by omega), rpF_lt (by omega)]
    · rw [if_neg h1]
      by_cases h2 : i < n
      · rw [rpF_lt h2, rpF_lt (by omega)]
      · rw [rpF_ge h2, rpF_ge (by omega)]
  · rw [if_neg (by omega), List.getElem?_eq_none (by rw [Is_length]; omega), List.getElem?_eq_none (by rw [Is_length]; omega)]
theorem rp_one {c : Int} {N : Nat} (h : 1 ≤ N) : splice (Is N fun _ => 0) 0 (Is 1 fun _ => c) = Is N (rpF c 1) := by
  apply List.ext_getElem?
  intro i
  rw [splice_get (by rw [Is_length, Is_length]; omega), Is_length]
  by_cases hi : i < N
  · rw [Is_get hi, Is_get hi]
    by_cases h1 : i < 1
    · rw [if_pos (by omega), Is_get (by omega), rpF_lt h1]
    · rw [if_neg (by omega), rpF_ge h1]
  · rw [if_neg (by omega), List.getElem?_eq_none (by rw [Is_length]; omega), List.getElem?_eq_none (by rw [Is_length]; omega)]
theorem rp_all (c : Int) (N : Nat) : Is N (rpF c N) = Is N fun _ => c := Is_congr fun i hi => if_pos hi
theorem mul64_ac (h : List Blk) : AC Tryz.prog 105 [.int .u64 1, .int .u64 65536] h (.tuple #[.int .u64 0, .int .u64 65536]) h := by
  have f1 : bits .and .u64 1 4294967295 = 1 := by decide +kernel
  have f2 : bits .and .u64 65536 4294967295 = 65536 := by decide +kernel
  have f3 : Int.fdiv 1 (2 ^ min 32 64) = 0 := by decide +kernel
  have f4 : Int.fdiv 65536 (2 ^ min 32 64) = 0 := by decide +kernel
  have f5 : bits .and .u64 0 4294967295 = 0 := by decide +kernel
  have f6 : Int.fdiv 0 (2 ^ min 32 64) = 0 := by decide +kernel
  (refine AC_begin (fun _ _ => Tryz.call105 _ _) Tryz.func105 rfl Tryz.ntmps105 Tryz.results105 (fun hwf => ?_); simp only [LCN, Nat.reduceAdd, Nat.reduceSub, List.replicate])
  (refine sN (And.intro @f1 (And.intro @f2 (And.intro @f3 (And.intro @f4 (And.intro @f5 @f6))))) ?_)
  (exact sR0)

theorem mulU_ac (h : List Blk) : AC Tryz.prog 82 [.int .u64 1, .int .u64 65536] h (.tuple #[.int .u64 0, .int .u64 65536]) h := by
  (refine AC_begin (fun _ _ => Tryz.call82 _ _) Tryz.func82 rfl Tryz.ntmps82 Tryz.results82 (fun hwf => ?_); simp only [LCN, Nat.reduceAdd, Nat.reduceSub, List.replicate])
  (refine sW0 @mul64_ac ?_)
  (exact sR0)

attribute [local irreducible] Is
theorem rep_ac {h : List Blk} {b : Nat} {c : Int} {r : Bool} (hb : h[b]? = some ⟨Is 1 fun _ => c, r⟩) : AC Tryz.prog 41 [sl b 0 1 1, .int .i64 65536] h (sl h.length 0 65536 1) (h ++ [⟨Is 65536 fun _ => c, true⟩]) := by
  have hbl := blt hb
  have hb2 := look_old hb [⟨Is 65536 fun _ => 0, true⟩]
  have hc : ∀ (h : List Blk) (b o n b' o' n' : Nat), copyA Tryz.prog h 77 (sl b o n 1) (sl b' o' n' 1) = copyR h b o n 1 o' n' (h[b]?) (h[b']?) := fun h b o n b' o' n' => copy_of (e := 3) (by' := 8) (by kernel_rfl) h b o n b' o' n'
  have h1 := rp_one (c := c) (N := 65536) (by omega)
  have tn : Int.toNat 65536 = 65536 := rfl
  have d1 : decide ((65536 : Int) < 0) = false := by decide
  have d2 : decide ((0 : Int) < 0) = false := by decide
  have d3 : decide ((9223372036854775807 : Int) < 65536) = false := by decide
  (refine AC_begin (fun _ _ => Tryz.call41 _ _) Tryz.func41 rfl Tryz.ntmps41 Tryz.results41 (fun hwf => ?_); simp only [LCN, Nat.reduceAdd, Nat.reduceSub, List.replicate])
  (refine sW (And.intro @d1 (And.intro @d2 (And.intro @d3 (And.intro @tn (And.intro @hc (And.intro @hb2 (And.intro (Nat.min_eq_left (show 1 ≤ 65536 by omega)) (And.intro @h1 (@yieldA_at 2 23))))))))) @mulU_ac ?_)
  refine WA_forP (fun k => [(8, .int .i64 ((2 ^ k : Nat) : Int)), (34, J), (35, J), (36, J), (37, J), (38, J), (39, J), (40, J), (41, J), (42, J), (43, J), (44, J), (45, J), (46, J)]) (fun k => [(0, ⟨Is 65536 (rpF c (2 ^ k)), true⟩)]) (16) ?_ ?_ ?_ <;> (try simp only [PTS])
  · rw [show (2 : Nat) ^ 0 = 1 from rfl]
    (exact sS0)
  · intro k hk
    have hp : 2 ^ k + 2 ^ k ≤ 65536 := by
      have := Nat.pow_le_pow_right (n := 2) (by omega) (show k + 1 ≤ 16 by omega)
      rw [Nat.pow_succ] at this; omega
    have hs := rp_step (c := c) hp
    have he : 2 ^ (k + 1) = 2 ^ k + 2 ^ k := by rw [Nat.pow_succ]; omega
    rw [he]
    generalize 2 ^ k = p at *
    have hm : min p (65536 - p) = p := Nat.min_eq_left (by omega)
    have hd : decide (p < 65536) = true := decide_eq_true (by omega)
    (repeat (first | ((first | (refine And.intro ?_ ?_; focus exact PLA) | refine WA_seq (WA_region ?_) | refine WA_region ?_ | refine WA_exit ?_); try simp (maxSteps := 1000000) (disch := first | omega | rfl | decide | (simp only [LX] <;> omega)) only [go_sem, Nat.reduceAdd, Int.reduceAdd, Int.reduceSub, Int.reduceMul, BNS, hc, hm, hs, hd, decide_true, yieldA_at 2 23]) | (refine (WA_rb (id := 9) [7] (SubM.refl _) mixedOk ?_); simp only [LSZ]; (repeat (first | ((first | (refine And.intro ?_ ?_; focus exact PLA) | refine RTk false [0, 1, 2, 4, 5] 5 ?_ | refine RTk true [3, 6] 3 ?_ | refine REx 7 ?_ | refine RTk false [8, 9] 0 ?_ | refine RB_done (by decide +kernel) ?_); try simp (maxSteps := 1000000) (disch := first | omega | rfl | decide | (simp only [LX] <;> omega)) only [go_sem, Nat.reduceAdd, Int.reduceAdd, Int.reduceSub, Int.reduceMul, BNS, hc, hm, hs, hd, decide_true, yieldA_at 2 23])))) | refine WA_seq ?_ | refine WA_block ?_ | (refine WA_skip ?_; try simp only [go_sem]) | (refine WA_ret ?_; try simp only [go_sem]) | refine WA_ct rfl ?_ | refine WA_cf rfl ?_))
    (exact sS0)
  · have he : (2 : Nat) ^ 16 = 65536 := by decide
    rw [he, rp_all]
    (refine sN (@yieldA_at 2 23) ?_)
    (exact sR0)

end Go.Proofs.YtenkjbkcdcionaaGreat
/- Least activity: rounds of costs. Plain. -/
namespace Go.Proofs.YtenkjbkcdcionaaGreat
set_option linter.unusedSimpArgs false
set_option linter.unusedVariables false
set_option maxRecDepth 20000
set_option maxHeartbeats 1000000
open Go.Abs

def tgN (c s p : Nat) : Nat := s ^^^ (((s >>> (4 * c) &&& 15) ^^^ p) <<< (4 * c))
theorem bit15 (j : Nat) : (15 : Nat).testBit j = decide (j < 4) := by
  rcases Nat.lt_or_ge j 4 with h | h
  · rw [decide_eq_true h]
    match j, h with
    | 0, _ => rfl
    | 1, _ => rfl
    | 2, _ => rfl
    | 3, _ => rfl
  · rw [decide_eq_false (by omega), Nat.testBit_lt_two_pow (Nat.lt_of_lt_of_le (show 15 < 2 ^ 4 by decide) (Nat.pow_le_pow_right (by omega) h))]
theorem tgN_lt {c s p : Nat} (hc : c < 4) (hs : s < 65536) (hp : p < 16) : tgN c s p < 65536 := by
  unfold tgN
  refine Nat.xor_lt_two_pow (n := 16) hs ?_
  have h1 : (s >>> (4 * c) &&& 15) ^^^ p < 2 ^ 4 := Nat.xor_lt_two_pow (Nat.lt_of_le_of_lt Nat.and_le_right (by decide)) hp
  rw [Nat.shiftLeft_eq]
  refine Nat.lt_of_lt_of_le ((Nat.mul_lt_mul_right (Nat.two_pow_pos _)).2 h1) ?_
  rw [← Nat.pow_add]
  exact Nat.pow_le_pow_right (by omega) (by omega)
theorem tgN_or {c s p : Nat} (hp : p < 16) : (s ^^^ (s &&& (15 <<< (4 * c)))) ||| (p <<< (4 * c)) = tgN c s p := by
  refine Nat.eq_of_testBit_eq fun i => ?_
  unfold tgN
  simp only [Nat.testBit_or, Nat.testBit_xor, Nat.testBit_and, Nat.testBit_shiftLeft, Nat.testBit_shiftRight, bit15]
  by_cases hi : i ≥ 4 * c
  · rw [decide_eq_true hi, show 4 * c + (i - 4 * c) = i by omega]
    by_cases h4 : i - 4 * c < 4
    · rw [decide_eq_true h4]
      cases s.testBit i <;> cases p.testBit (i - 4 * c) <;> rfl
    · rw [decide_eq_false h4, Nat.testBit_lt_two_pow (x := p) (Nat.lt_of_lt_of_le (show p < 2 ^ 4 from hp) (Nat.pow_le_pow_right (by omega) (by omega)))]
      cases s.testBit i <;> rfl
  · rw [decide_eq_false hi]
    cases s.testBit i <;> rfl
def colN (F : Nat → Nat → Nat) (len : Nat → Nat) (v : Nat → Int) : Nat → Nat → Int
  | 0 => v
  | c + 1 => cols (fun s k => tgN c s (F (s >>> (4 * c) &&& 15) k)) (fun s => len (s >>> (4 * c) &&& 15)) (colN F len v c) (fun _ => 1000) 65536
theorem colN_rel {B U : Int} (hB : 1000 ≤ U) {F : Nat → Nat → Nat} {len : Nat → Nat} {v v' : Nat → Int} (hv : ∀ s, s < 65536 → Cap B U (v s) (v' s)) : ∀ c s, s < 65536 → Cap B U (colN F len v c s) (colN F len v' c s)
  | 0, s, hs => hv s hs
  | c + 1, s, _ => cols_rel (fun t => ⟨by omega, hB, rfl, .inr (by omega)⟩) 65536 (colN_rel hB hv c) s
theorem inn_bd {lo : Int} {tg : Nat → Nat} {x : Int} {f : Nat → Int} (hx : lo ≤ x) (hf : ∀ t, lo ≤ f t ∧ f t ≤ 1000) : ∀ k t, lo ≤ inn tg x f k t ∧ inn tg x f k t ≤ 1000
  | 0, t => hf t
  | k + 1, t => by
    have ih := inn_bd (tg := tg) hx hf k
    show lo ≤ upd _ _ _ t ∧ upd _ _ _ t ≤ 1000
    unfold upd
    split
    · have := ih (tg k); omega
    · exact ih t
theorem cols_bd {lo : Int} {tg : Nat → Nat → Nat} {len : Nat → Nat} {v f : Nat → Int} (hf : ∀ t, lo ≤ f t ∧ f t ≤ 1000) : ∀ n, (∀ s, s < n → lo ≤ v s) → ∀ t, lo ≤ cols tg len v f n t ∧ cols tg len v f n t ≤ 1000
  | 0, _, t => hf t
  | n + 1, hv, t => inn_bd (hv n (by omega)) (cols_bd hf n fun s hs => hv s (by omega)) _ t
theorem colN_bd {F : Nat → Nat → Nat} {len : Nat → Nat} {v : Nat → Int} (hv : ∀ s, s < 65536 → 0 ≤ v s) : ∀ c s, s < 65536 → 0 ≤ colN F len v c s
  | 0, s, hs => hv s hs
  | c + 1, s, _ => (cols_bd (fun _ => by omega) 65536 (colN_bd hv c) s).1
theorem colN_le {F : Nat → Nat → Nat} {len : Nat → Nat} {v : Nat → Int} (hv : ∀ s, s < 65536 → 0 ≤ v s) (c s : Nat) : colN F len v (c + 1) s ≤ 1000 := (cols_bd (fun _ => by omega) 65536 (colN_bd hv c) s).2
theorem wrR_bd {lo hi : Int} {ix : Nat → Nat} {v f : Nat → Int} (hf : ∀ t, lo ≤ f t ∧ f t ≤ hi) : ∀ n, (∀ s, s < n → lo ≤ v s ∧ v s ≤ hi) → ∀ t, lo ≤ wrR ix v f n t ∧ wrR ix v f n t ≤ hi
  | 0, _, t => hf t
  | n + 1, hv, t => by
    show lo ≤ upd _ _ _ t ∧ upd _ _ _ t ≤ hi
    unfold upd
    split
    · exact hv n (by omega)
    · exact wrR_bd hf n (fun s hs => hv s (by omega)) t
def mvC (pl : Nat → UInt8) (f : Nat → Int) (z : Int) : Nat → Nat → Int := wrR (fun s => mvM pl s 16) f fun _ => z
def rdS (pl : Nat → UInt8) (F : Nat → Nat → Nat) (len : Nat → Nat) (f : Nat → Int) : Nat → Int := fun s => colN F len (mvC pl f 0 65536) 4 s + ((popP s 16 : Nat) : Int)
def rdI (pl : Nat → UInt8) (F : Nat → Nat → Nat) (len : Nat → Nat) (f : Nat → Int) : Nat → Int := fun s => if colN F len (mvC pl f 1000 65536) 4 s < 1000 then colN F len (mvC pl f 1000 65536) 4 s + ((popP s 16 : Nat) : Int) else colN F len (mvC pl f 1000 65536) 4 s
theorem rd_rel {B U : Int} (hB : B + 16 < 1000) (hU : 1000 ≤ U) {pl : Nat → UInt8} (hp : plOk pl = true) {F : Nat → Nat → Nat} {len : Nat → Nat} {f g : Nat → Int} (h : ∀ s, s < 65536 → Cap B U (f s) (g s)) :
    ∀ s, s < 65536 → Cap (B + 16) (U + 16) (rdS pl F len f s) (rdI pl F len g s) := fun s hs => by
  have hm : ∀ t, t < 65536 → Cap B U (mvC pl f 0 65536 t) (mvC pl g 1000 65536 t) := fun t ht => by
    obtain ⟨s, h1, h2⟩ := mvM_onto hp ht
    exact wrR_rel (R := Cap B U) h (.inr ⟨s, h1, h2⟩)
  have hpp := popP_le s 16
  exact Cap_add (colN_rel hU hm 4 s hs) (by omega) (by omega) hB
def st0 : Nat → Int := upd (fun s => ((popP s 16 : Nat) : Int)) 0 1000
theorem st0_cap (s : Nat) : Cap 16 1000 (st0 s) (st0 s) := by
  have hpp := popP_le s 16
  have hs : st0 s = if s = 0 then 1000 else ((popP s 16 : Nat) : Int) := rfl
  unfold Cap
  rw [hs]
  split
  · omega
  · rw [if_pos (by omega)]; omega
def itS (pl : Nat → UInt8) (F : Nat → Nat → Nat) (len : Nat → Nat) : Nat → Nat → Int
  | 0 => st0
  | r + 1 => rdS pl F len (itS pl F len r)
def itI (pl : Nat → UInt8) (F : Nat → Nat → Nat) (len : Nat → Nat) : Nat → Nat → Int
  | 0 => st0
  | r + 1 => rdI pl F len (itI pl F len r)
theorem it_cap {pl : Nat → UInt8} (hp : plOk pl = true) (F : Nat → Nat → Nat) (len : Nat → Nat) : ∀ r : Nat, r ≤ 20 → ∀ s, s < 65536 → Cap (16 * (r : Int) + 16) (16 * (r : Int) + 1000) (itS pl F len r s) (itI pl F len r s)
  | 0, _, s, _ => st0_cap s
  | r + 1, hr, s, hs => by
    have := rd_rel (by omega) (by omega) hp (F := F) (len := len) (it_cap hp F len r (by omega)) s hs
    have e1 : (16 : Int) * ((r : Nat) : Int) + 16 + 16 = 16 * ((r + 1 : Nat) : Int) + 16 := by omega
    have e2 : (16 : Int) * ((r : Nat) : Int) + 1000 + 16 = 16 * ((r + 1 : Nat) : Int) + 1000 := by omega
    rw [e1, e2] at this
    exact this
theorem itS_bd {pl : Nat → UInt8} (hp : plOk pl = true) (F : Nat → Nat → Nat) (len : Nat → Nat) {r : Nat} (hr : r ≤ 20) (s : Nat) (hs : s < 65536) : 0 ≤ itS pl F len r s ∧ itS pl F len r s ≤ 2000 := by
  have := it_cap hp F len r hr s hs
  unfold Cap at this; omega
theorem itI_bd {pl : Nat → UInt8} (hp : plOk pl = true) (F : Nat → Nat → Nat) (len : Nat → Nat) {r : Nat} (hr : r ≤ 20) (s : Nat) (hs : s < 65536) : 0 ≤ itI pl F len r s ∧ itI pl F len r s ≤ 1000 := by
  have := it_cap hp F len r hr s hs
  unfold Cap at this
  split at this <;> omega
def lsF (f : Nat → Int) : Nat → Int
  | 0 => 1000
  | k + 1 => if f k < lsF f k then f k else lsF f k
theorem lsF_cap {B U : Int} {f g : Nat → Int} : ∀ {n : Nat}, (∀ s, s < n + 1 → Cap B U (f s) (g s)) → lsF f (n + 1) = mnF g n
  | 0, h => by
    have h0 := h 0 (by omega)
    unfold Cap at h0
    show (if f 0 < 1000 then f 0 else 1000) = g 0
    rw [h0.2.2.1]
  | n + 1, h => by
    have ih := lsF_cap (n := n) (fun s hs => h s (by omega))
    have h0 := h (n + 1) (by omega)
    have hz := Cap_le (h 0 (by omega))
    have hm := mnF_le g n 0 (by omega)
    unfold Cap at h0
    obtain ⟨_, _, h0, _⟩ := h0
    show (if f (n + 1) < lsF f (n + 1) then f (n + 1) else lsF f (n + 1)) = (if g (n + 1) < mnF g n then g (n + 1) else mnF g n)
    rw [ih]
    split at h0 <;> split <;> split <;> omega
end Go.Proofs.YtenkjbkcdcionaaGreat
/- Least activity: a round of the reference. -/
namespace Go.Proofs.YtenkjbkcdcionaaGreat
set_option linter.unusedSimpArgs false
set_option linter.unusedVariables false
set_option maxRecDepth 20000
set_option maxHeartbeats 1000000
open Go.Abs

theorem rp_next (c : Int) (k : Nat) : upd (rpF c k) k c = rpF c (k + 1) := by
  funext i
  show (if i = k then c else rpF c k i) = rpF c (k + 1) i
  by_cases h : i = k
  · rw [if_pos h, rpF_lt (by omega)]
  · rw [if_neg h]
    by_cases h2 : i < k
    · rw [rpF_lt h2, rpF_lt (by omega)]
    · rw [rpF_ge h2, rpF_ge (by omega)]
def adF (v : Nat → Int) (k : Nat) : Nat → Int := fun i => if i < k then v i + ((popP i 16 : Nat) : Int) else v i
theorem adF_zero (v : Nat → Int) : adF v 0 = v := funext fun i => if_neg (Nat.not_lt_zero i)
theorem adF_at (v : Nat → Int) (k : Nat) : adF v k k = v k := if_neg (Nat.lt_irrefl k)
theorem adF_next (v : Nat → Int) (k : Nat) : upd (adF v k) k (v k + ((popP k 16 : Nat) : Int)) = adF v (k + 1) := by
  funext i
  show (if i = k then v k + ((popP k 16 : Nat) : Int) else adF v k i) = adF v (k + 1) i
  unfold adF
  by_cases h : i = k
  · subst h; rw [if_pos rfl, if_pos (by omega)]
  · rw [if_neg h]
    by_cases h2 : i < k
    · rw [if_pos h2, if_pos (by omega)]
    · rw [if_neg h2, if_neg (by omega)]
theorem mvC_next (pl : Nat → UInt8) (f : Nat → Int) (z : Int) (k : Nat) : upd (mvC pl f z k) (mvM pl k 16) (f k) = mvC pl f z (k + 1) := rfl
theorem mvC_zero (pl : Nat → UInt8) (f : Nat → Int) (z : Int) : mvC pl f z 0 = fun _ => z := rfl
theorem cols_next (tg : Nat → Nat → Nat) (len : Nat → Nat) (v f : Nat → Int) (s : Nat) : inn (tg s) (v s) (cols tg len v f s) (len s) = cols tg len v f (s + 1) := rfl
theorem cols_zero (tg : Nat → Nat → Nat) (len : Nat → Nat) (v f : Nat → Int) : cols tg len v f 0 = f := rfl
theorem inn_next (tg : Nat → Nat) (x : Int) (f : Nat → Int) (k : Nat) : upd (inn tg x f k) (tg k) (min (inn tg x f k (tg k)) x) = inn tg x f (k + 1) := rfl
theorem inn_zero (tg : Nat → Nat) (x : Int) (f : Nat → Int) : inn tg x f 0 = f := rfl
theorem colN_zero (F : Nat → Nat → Nat) (len : Nat → Nat) (v : Nat → Int) : colN F len v 0 = v := rfl
theorem colN_next (F : Nat → Nat → Nat) (len : Nat → Nat) (v : Nat → Int) (c : Nat) : cols (fun s k => tgN c s (F (s >>> (4 * c) &&& 15) k)) (fun s => len (s >>> (4 * c) &&& 15)) (colN F len v c) (fun _ => 1000) 65536 = colN F len v (c + 1) := rfl
theorem rdS_is (pl : Nat → UInt8) (F : Nat → Nat → Nat) (len : Nat → Nat) (f : Nat → Int) : Is 65536 (adF (colN F len (mvC pl f 0 65536) 4) 65536) = Is 65536 (rdS pl F len f) := Is_congr fun i hi => if_pos hi
theorem tgN_is (c s p : Nat) : s ^^^ (((s >>> (4 * c) &&& 15) ^^^ p) <<< (4 * c)) = tgN c s p := rfl
theorem shl_c {v c : Nat} (hv : v < 16) (hc : c < 4) : v <<< (4 * c) < 65536 := by
  rw [Nat.shiftLeft_eq]
  refine Nat.lt_of_lt_of_le ((Nat.mul_lt_mul_right (Nat.two_pow_pos _)).2 hv) ?_
  rw [show (16 : Nat) = 2 ^ 4 from rfl, ← Nat.pow_add]
  exact Nat.le_trans (Nat.pow_le_pow_right (by omega) (show 4 + 4 * c ≤ 16 by omega)) (by decide)
theorem rpF_zero (c : Int) : rpF c 0 = fun _ => 0 := funext fun _ => if_neg (Nat.not_lt_zero _)
theorem mvC_bd {pl : Nat → UInt8} {f : Nat → Int} (hf : ∀ s, s < 65536 → 0 ≤ f s ∧ f s ≤ 2000) (t : Nat) : 0 ≤ mvC pl f 0 65536 t := (wrR_bd (lo := 0) (hi := 2000) (fun _ => by omega) 65536 hf t).1
attribute [local irreducible] Is mvM mvC cols inn colN rpF adF tgN
theorem rdS_ac {m r : Int} {bx mx pl : Nat → UInt8} {f : Nat → Int} {g len : Nat → Nat} {F : Nat → Nat → Nat} {pb cb : Nat} {h : List Blk} {rp rc : Bool}
    (hsp : h[pb]? = some ⟨Vs 16 fun j => sl (g j) 0 (len j) 1, rp⟩) (hrow : ∀ j, j < 16 → h[g j]? = some ⟨Is (len j) fun i => ((F j i : Nat) : Int), true⟩) (hF : ∀ j i, F j i < 16) (hlen : ∀ j, len j ≤ 1000)
    (hcb : h[cb]? = some ⟨Is 65536 f, rc⟩) (hf : ∀ s, s < 65536 → 0 ≤ f s ∧ f s ≤ 2000) :
    AC Tryz.prog 47 [.agg (Ci m bx mx pl r).toArray, sl pb 0 16 1, sl cb 0 65536 1] h (sl (h.length + 1) 0 65536 1) (h ++ [⟨Ci m bx mx pl r, true⟩, ⟨Is 65536 (rdS pl F len f), true⟩]) := by
  have hbl := blt hcb
  have hbp := blt hsp
  have tn : Int.toNat 65536 = 65536 := rfl
  have mv0 := mvC_bd (pl := pl) hf
  (refine AC_begin (fun _ _ => Tryz.call47 _ _) Tryz.func47 rfl Tryz.ntmps47 Tryz.results47 (fun hwf => ?_); simp only [LCN, Nat.reduceAdd, Nat.reduceSub, List.replicate])
  (refine sN @tn ?_)
  refine WA_forP (fun k => [(8, .int .i64 k), (9, J), (10, J), (20, J), (21, J), (22, J), (23, J), (24, J), (25, J), (26, J), (27, J), (28, J), (29, J), (30, J), (31, J), (32, J), (33, J), (34, J), (35, J), (36, J), (37, J), (38, J), (39, J), (40, J), (41, J), (42, J), (43, J), (44, J), (45, J), (46, J), (47, J)]) (fun k => [(1, ⟨Is 65536 (mvC pl f 0 k), true⟩)]) (65536) ?_ ?_ ?_ <;> (try simp only [PTS])
  · rw [mvC_zero]
    (exact sS0)
  · intro s hs
    have hc0 := look_old hcb [⟨Ci m bx mx pl r, true⟩, ⟨Is 65536 (mvC pl f 0 s), true⟩]
    (refine sN0 ?_)
    refine WA_forP (fun k => [(9, .int .i64 ((mvM pl s k : Nat) : Int)), (10, .int .i64 k), (24, J), (25, J), (26, J), (27, J), (28, J), (29, J), (30, J), (31, J), (32, J), (33, J), (34, J), (35, J), (36, J), (37, J), (38, J), (39, J), (40, J)]) (fun k => []) (16) ?_ ?_ ?_ <;> (try simp only [PTS])
    · (refine Drop_slots (by first | exact Nat.le_refl _ | simp) ?_; focus ((try simp only [JL_same, JL_J, JL_nil, Int.reduceAdd, Nat.sub_sub, ICS, Bool.false_eq_true, if_false, if_true, mvM]); (try exact JL_refl _)))
    · intro i hi
      have hs2 := Nat.shiftRight_le s (pl i).toNat
      have hv : s >>> (pl i).toNat &&& 1 ≤ 1 := Nat.and_le_right
      have h1 : bits .and .i64 ((s >>> (pl i).toNat : Nat) : Int) 1 = ((s >>> (pl i).toNat &&& 1 : Nat) : Int) := bits_and_N (a := s >>> (pl i).toNat) (b := 1) (by omega) (by omega)
      have h0 := shr_any hs (pl i).toNat
      have h2 := bit_shl hv (show i ≤ 60 by omega)
      have hm := Nat.lt_of_lt_of_le (mvM_lt pl s i) (Nat.pow_le_pow_right (n := 2) (by omega) (show i ≤ 16 by omega))
      have hm2 := Nat.lt_of_lt_of_le (mvM_lt pl s (i + 1)) (Nat.pow_le_pow_right (n := 2) (by omega) (show i + 1 ≤ 16 by omega))
      have hq : (s >>> (pl i).toNat &&& 1) <<< i < 9223372036854775808 := by
        rw [Nat.shiftLeft_eq]
        exact Nat.lt_of_le_of_lt (Nat.mul_le_mul hv (Nat.pow_le_pow_right (n := 2) (by omega) (show i ≤ 60 by omega))) (by omega)
      have h3 := bits_or_N (a := mvM pl s i) (b := (s >>> (pl i).toNat &&& 1) <<< i) (by omega) hq
      rw [mvM_set] at h3
      have h4 := wrap_N hq
      have hu := wrap_U (n := (pl i).toNat) (by have := u8_lt (pl i); omega)
      (refine sN (And.intro @hu (And.intro @toNat_cast' (And.intro @h0 (And.intro @h1 (And.intro @h2 (And.intro @h4 @h3)))))) ?_)
      (exact sS0)
    · have hm := mvM_lt pl s 16
      (refine sN (And.intro @hc0 @mvC_next) ?_)
      (exact sS0)
  · (refine sN0 ?_)
    refine WA_forP (fun k => [(7, sl (h.length + 1) 0 65536 1), (11, .int .i64 k), (12, J), (13, J), (14, J), (15, J), (16, J), (17, J), (19, J), (48, J), (49, J), (50, J), (51, J), (52, J), (53, J), (54, J), (55, J), (56, J), (57, J), (58, J), (59, J), (60, J), (61, J), (62, J), (63, J), (64, J), (65, J), (66, J), (67, J), (68, J), (69, J), (70, J), (71, J), (72, J), (73, J), (74, J), (75, J), (76, J), (77, J), (78, J), (79, J), (80, J), (81, J), (82, J), (83, J), (84, J), (85, J), (86, J), (87, J), (88, J), (89, J), (90, J), (91, J), (92, J), (93, J), (94, J), (95, J), (96, J), (97, J), (98, J), (99, J), (100, J), (101, J), (102, J), (103, J), (104, J), (105, J), (106, J)]) (fun k => [(1, ⟨Is 65536 (colN F len (mvC pl f 0 65536) k), true⟩)]) (4) ?_ ?_ ?_ <;> (try simp only [PTS])
    · rw [colN_zero]
      (exact sS0)
    · intro c hc
      (refine sN @tn ?_)
      refine WA_forP (fun k => [(13, .int .i64 k), (53, J), (54, J), (55, J), (56, J), (57, J), (58, J), (59, J)]) (fun k => [(2, ⟨Is 65536 (rpF 1000 k), true⟩)]) (65536) ?_ ?_ ?_ <;> (try simp only [PTS])
      · rw [rpF_zero]
        (exact sS0)
      · intro i hi
        (refine sN @rp_next ?_)
        (exact sS0)
      · rw [rp_all]
        have hN := colN_next F len (mvC pl f 0 65536) c
        generalize htg : (fun s k => tgN c s (F (s >>> (4 * c) &&& 15) k)) = tg at hN
        generalize hln : (fun s => len (s >>> (4 * c) &&& 15)) = ln at hN
        rw [← hN]
        generalize colN F len (mvC pl f 0 65536) c = v at *
        (refine sN0 ?_)
        refine WA_forP (fun k => [(14, .int .i64 k), (15, J), (16, J), (17, J), (60, J), (61, J), (62, J), (63, J), (64, J), (65, J), (66, J), (67, J), (68, J), (69, J), (70, J), (71, J), (72, J), (73, J), (74, J), (75, J), (76, J), (77, J), (78, J), (79, J), (80, J), (81, J), (82, J), (83, J), (84, J), (85, J), (86, J), (87, J), (88, J), (89, J), (90, J), (91, J), (92, J), (93, J), (94, J), (95, J), (96, J), (97, J), (98, J), (99, J), (100, J), (101, J), (102, J), (103, J), (104, J), (105, J)]) (fun k => [(2, ⟨Is 65536 (cols tg ln v (fun _ => 1000) k), true⟩)]) (65536) ?_ ?_ ?_ <;> (try simp only [PTS])
        · rw [cols_zero]
          (exact sS0)
        · intro s hs
          have ha : s >>> (4 * c) &&& 15 < 16 := Nat.lt_of_le_of_lt Nat.and_le_right (by omega)
          have hsr := Nat.shiftRight_le s (4 * c)
          rw [← cols_next tg ln v _ s]
          have hs0 := look_old hsp [⟨Ci m bx mx pl r, true⟩, ⟨Is 65536 v, true⟩, ⟨Is 65536 (cols tg ln v (fun _ => 1000) s), true⟩]
          have hr0 := look_old (hrow _ ha) [⟨Ci m bx mx pl r, true⟩, ⟨Is 65536 v, true⟩, ⟨Is 65536 (cols tg ln v (fun _ => 1000) s), true⟩]
          have hl := hlen (s >>> (4 * c) &&& 15)
          have hln1 : ln s = len (s >>> (4 * c) &&& 15) := by rw [← hln]
          have htg1 : ∀ k, tg s k = tgN c s (F (s >>> (4 * c) &&& 15) k) := fun k => by rw [← htg]
          rw [hln1]
          generalize hpv : cols tg ln v (fun _ => 1000) s = pv at *
          (refine sN0 ?_)
          refine WA_forP (fun k => [(16, .int .i64 k), (17, J), (70, J), (71, J), (72, J), (73, J), (74, J), (75, J), (76, J), (77, J), (78, J), (79, J), (80, J), (81, J), (82, J), (83, J), (84, J), (85, J), (86, J), (87, J), (88, J), (89, J), (90, J), (91, J), (92, J), (93, J), (94, J), (95, J), (96, J), (97, J), (98, J), (99, J), (100, J), (101, J), (102, J), (103, J), (104, J), (105, J)]) (fun k => [(2, ⟨Is 65536 (inn (tg s) (v s) pv k), true⟩)]) (len (s >>> (4 * c) &&& 15)) ?_ ?_ ?_ <;> (try simp only [PTS])
          · rw [inn_zero]
            (exact sS0)
          · intro k hk
            rw [← inn_next, htg1]
            have hFk := hF (s >>> (4 * c) &&& 15) k
            have hx : (s >>> (4 * c) &&& 15) ^^^ F (s >>> (4 * c) &&& 15) k < 16 := Nat.xor_lt_two_pow (n := 4) ha hFk
            have hsh := shl_c hx hc
            have hws := wrap_N (Nat.lt_trans hsh (by decide))
            have htl := tgN_lt hc hs hFk
            have htd := tgN_is c s (F (s >>> (4 * c) &&& 15) k)
            have hs1 := look_old hsp [⟨Ci m bx mx pl r, true⟩, ⟨Is 65536 v, true⟩, ⟨Is 65536 (inn (tg s) (v s) pv k), true⟩]
            have hr1 := look_old (hrow _ ha) [⟨Ci m bx mx pl r, true⟩, ⟨Is 65536 v, true⟩, ⟨Is 65536 (inn (tg s) (v s) pv k), true⟩]
            (repeat (first | ((first | (refine And.intro ?_ ?_; focus exact PLA) | refine WA_seq (WA_region ?_) | refine WA_region ?_ | refine WA_exit ?_); try simp (maxSteps := 1000000) (disch := first | omega | rfl | decide | (simp only [LX] <;> omega)) only [go_sem, Nat.reduceAdd, Int.reduceAdd, Int.reduceSub, Int.reduceMul, BNS, hs1, hr1, hws, htd, min_if]) | (refine (WA_rb (id := 27) [12] (SubM.refl _) mixedOk ?_); simp only [LSZ]; (repeat (first | ((first | (refine And.intro ?_ ?_; focus exact PLA) | refine RTk false [0, 1, 2, 3, 4, 6, 7, 8] 5 ?_ | refine RTk true [5, 9] 3 ?_ | refine RTk false [10, 11] 1 ?_ | refine REx 12 ?_ | refine RB_done (by decide +kernel) ?_); try simp (maxSteps := 1000000) (disch := first | omega | rfl | decide | (simp only [LX] <;> omega)) only [go_sem, Nat.reduceAdd, Int.reduceAdd, Int.reduceSub, Int.reduceMul, BNS, hs1, hr1, hws, htd, min_if])))) | refine WA_seq ?_ | refine WA_block ?_ | (refine WA_skip ?_; try simp only [go_sem]) | (refine WA_ret ?_; try simp only [go_sem]) | refine WA_ct rfl ?_ | refine WA_cf rfl ?_))
            (exact sS0)
          · have hs2 := look_old hsp [⟨Ci m bx mx pl r, true⟩, ⟨Is 65536 v, true⟩, ⟨Is 65536 (inn (tg s) (v s) pv (len (s >>> (4 * c) &&& 15))), true⟩]
            (refine sN @hs2 ?_)
            (exact sS0)
        · (refine sN0 ?_)
          (exact gC [0, 2])
    · (refine sN0 ?_)
      refine WA_forP (fun k => [(18, .int .i64 k), (107, J), (108, J), (109, J), (110, J), (111, J), (112, J), (113, J), (114, J), (115, J), (116, J), (117, J), (118, J), (119, J), (120, J)]) (fun k => [(1, ⟨Is 65536 (adF (colN F len (mvC pl f 0 65536) 4) k), true⟩)]) (65536) ?_ ?_ ?_ <;> (try simp only [PTS])
      · rw [adF_zero]
        (exact sS0)
      · intro s hs
        have hb0 : 0 ≤ colN F len (mvC pl f 0 65536) 4 s := colN_bd (fun t _ => mv0 t) 4 s hs
        have hb1 : colN F len (mvC pl f 0 65536) 4 s ≤ 1000 := colN_le (fun t _ => mv0 t) 3 s
        have hpp := popP_le s 16
        generalize colN F len (mvC pl f 0 65536) 4 = v at *
        have hwv := wrap_i64 (n := v s + ((popP s 16 : Nat) : Int)) (by omega) (by omega)
        (repeat (first | ((first | (refine And.intro ?_ ?_; focus exact PLA) | ((first | with_reducible apply callB_i | with_reducible apply callK_intro | with_reducible apply callQ_i); (focus (first | assumption | (with_reducible apply bitsS_ac hs <;> (first | assumption | rfl | (simp (disch := omega) only [go_sem]; first | done | rfl) | omega | decide | (simp; done))))); (try exact WP_au)) | refine WA_seq (WA_region ?_) | refine WA_region ?_ | refine WA_exit ?_); try simp (maxSteps := 1000000) (disch := first | omega | rfl | decide | (simp only [LX] <;> omega)) only [go_sem, Nat.reduceAdd, Int.reduceAdd, Int.reduceSub, Int.reduceMul, BNS, adF_at, hwv, adF_next]) | (refine (WA_rb (id := 32) [10] (SubM.refl _) mixedOk ?_); simp only [LSZ]; (repeat (first | ((first | (refine And.intro ?_ ?_; focus exact PLA) | ((first | with_reducible apply callB_i | with_reducible apply callK_intro | with_reducible apply callQ_i); (focus (first | assumption | (with_reducible apply bitsS_ac hs <;> (first | assumption | rfl | (simp (disch := omega) only [go_sem]; first | done | rfl) | omega | decide | (simp; done))))); (try exact WP_au)) | refine RTk false [0, 1, 2, 3, 4, 6] 5 ?_ | refine RTk true [5, 7] 3 ?_ | refine RTk false [8, 9] 1 ?_ | refine REx 10 ?_ | refine RB_done (by decide +kernel) ?_); try simp (maxSteps := 1000000) (disch := first | omega | rfl | decide | (simp only [LX] <;> omega)) only [go_sem, Nat.reduceAdd, Int.reduceAdd, Int.reduceSub, Int.reduceMul, BNS, adF_at, hwv, adF_next])))) | refine WA_seq ?_ | refine WA_block ?_ | (refine WA_skip ?_; try simp only [go_sem]) | (refine WA_ret ?_; try simp only [go_sem]) | refine WA_ct rfl ?_ | refine WA_cf rfl ?_))
        (exact sS0)
      · rw [rdS_is]
        (refine sN0 ?_)
        (exact sR0)

end Go.Proofs.YtenkjbkcdcionaaGreat
/- Least activity: a column of the program. -/
namespace Go.Proofs.YtenkjbkcdcionaaGreat
set_option linter.unusedSimpArgs false
set_option linter.unusedVariables false
set_option maxRecDepth 20000
set_option maxHeartbeats 1000000
open Go.Abs

theorem bits_andNot_N {a b : Nat} (ha : a < 9223372036854775808) (hb : b < 9223372036854775808) : bits .andNot .i64 (a : Int) (b : Int) = ((a ^^^ (a &&& b) : Nat) : Int) := by
  have hx : a ^^^ (a &&& b) < 2 ^ 63 := Nat.xor_lt_two_pow (by omega) (Nat.lt_of_le_of_lt Nat.and_le_left (by omega))
  have e : (BitVec.ofInt 64 (a : Int) &&& ~~~ BitVec.ofInt 64 (b : Int)).toNat = a ^^^ (a &&& b) := by
    refine Nat.eq_of_testBit_eq fun i => ?_
    rw [BitVec.testBit_toNat, BitVec.getLsbD_and, BitVec.getLsbD_not, ← BitVec.testBit_toNat, ← BitVec.testBit_toNat, ofInt64_nat (by omega), ofInt64_nat (by omega), Nat.testBit_xor, Nat.testBit_and]
    by_cases hi : i < 64
    · rw [decide_eq_true hi]
      cases a.testBit i <;> cases b.testBit i <;> rfl
    · rw [Nat.testBit_lt_two_pow (x := a) (Nat.lt_of_lt_of_le (show a < 2 ^ 64 by omega) (Nat.pow_le_pow_right (by omega) (by omega)))]
      rfl
  show IntKind.i64.wrap ((BitVec.ofInt 64 (a : Int) &&& ~~~ BitVec.ofInt 64 (b : Int)).toNat : Int) = _
  rw [e, wrap_i64 (by omega) (by omega)]
theorem rep1_ac {h : List Blk} {b : Nat} {c : Int} {r : Bool} (hb : h[b]? = some ⟨[.int .i64 c], r⟩) : AC Tryz.prog 41 [sl b 0 1 1, .int .i64 65536] h (sl h.length 0 65536 1) (h ++ [⟨Is 65536 fun _ => c, true⟩]) := rep_ac (c := c) (r := r) hb
theorem inn_skp {tg : Nat → Nat} {x : Int} {f : Nat → Int} (hx : x = 1000) (hf : ∀ t, f t ≤ 1000) (k : Nat) : inn tg x f k = f := by
  subst hx; exact inn_skip hf k
attribute [local irreducible] Is mvM mvC cols inn colN rpF adF tgN Vs
theorem bec_ac {v : Nat → Int} {g len : Nat → Nat} {F : Nat → Nat → Nat} {cb c : Nat} {h : List Blk} {rc : Bool} (hc : c < 4)
    (hrow : ∀ j, j < 16 → h[g j]? = some ⟨Is (len j) fun i => ((F j i : Nat) : Int), true⟩) (hF : ∀ j i, F j i < 16) (hlen : ∀ j, len j ≤ 1000)
    (hcb : h[cb]? = some ⟨Is 65536 v, rc⟩) (hv : ∀ s, s < 65536 → 0 ≤ v s) :
    AC Tryz.prog 43 [sl cb 0 65536 1, .int .i64 ((c : Nat) : Int), .agg (Vs 16 fun j => sl (g j) 0 (len j) 1).toArray] h (sl (h.length + 2) 0 65536 1)
      (h ++ [⟨Vs 16 fun j => sl (g j) 0 (len j) 1, true⟩, ⟨[.int .i64 1000], true⟩, ⟨Is 65536 (cols (fun s k => tgN c s (F (s >>> (4 * c) &&& 15) k)) (fun s => len (s >>> (4 * c) &&& 15)) v (fun _ => 1000) 65536), true⟩]) := by
  have hbl := blt hcb
  have hgl : ∀ j, j < 16 → g j < h.length := fun j hj => blt (hrow j hj)
  generalize htg : (fun s k => tgN c s (F (s >>> (4 * c) &&& 15) k)) = tg
  generalize hln : (fun s => len (s >>> (4 * c) &&& 15)) = ln
  (refine AC_begin (fun _ _ => Tryz.call43 _ _) Tryz.func43 rfl Tryz.ntmps43 Tryz.results43 (fun hwf => ?_); simp only [LCN, Nat.reduceAdd, Nat.reduceSub, List.replicate])
  (refine sY0 @rep1_ac ?_)
  refine WA_forP (fun k => [(8, J), (9, J), (10, J), (12, J), (13, J), (20, .int .i64 k), (21, J), (22, J), (23, J), (24, J), (25, J), (26, J), (27, J), (28, J), (29, J), (30, J), (31, J), (32, J), (33, J), (34, J), (35, J), (36, J), (37, J), (38, J), (39, J), (40, J), (41, J), (42, J), (43, J), (44, J), (45, J), (46, J), (47, J), (48, J), (49, J), (50, J), (51, J), (52, J), (53, J), (54, J), (55, J), (56, J), (57, J), (58, J), (59, J), (60, J)]) (fun k => [(2, ⟨Is 65536 (cols tg ln v (fun _ => 1000) k), true⟩)]) (65536) ?_ ?_ ?_ <;> (try simp only [PTS])
  · rw [cols_zero]
    (exact sS0)
  · intro s hs
    have ha : s >>> (4 * c) &&& 15 < 16 := Nat.lt_of_le_of_lt Nat.and_le_right (by omega)
    have hsr := Nat.shiftRight_le s (4 * c)
    rw [← cols_next tg ln v _ s]
    have hc0 := look_old hcb [⟨Vs 16 fun j => sl (g j) 0 (len j) 1, true⟩, ⟨[.int .i64 1000], true⟩, ⟨Is 65536 (cols tg ln v (fun _ => 1000) s), true⟩]
    have hl := hlen (s >>> (4 * c) &&& 15)
    have hln1 : ln s = len (s >>> (4 * c) &&& 15) := by rw [← hln]
    have htg1 : ∀ k, tg s k = tgN c s (F (s >>> (4 * c) &&& 15) k) := fun k => by rw [← htg]
    have hle : ∀ t, cols tg ln v (fun _ => 1000) s t ≤ 1000 := fun t => (cols_bd (fun _ => by omega) s (fun i hi => hv i (by omega)) t).2
    rw [hln1]
    generalize hpv : cols tg ln v (fun _ => 1000) s = pv at *
    by_cases hk : v s = 1000
    · have hb : (v s == 1000) = true := by rw [hk]; rfl
      rw [inn_skp hk hle]
      (refine sN (And.intro @hc0 @hb) ?_)
      (exact sS0)
    · have hb : (v s == 1000) = false := by rw [beq_eq_false_iff_ne]; exact hk
      have h15 := shl_c (v := 15) (by omega) hc
      have hw15 : IntKind.i64.wrap (15 * 2 ^ min (4 * c) 64) = ((15 <<< (4 * c) : Nat) : Int) := by
        have e : (15 : Int) * (2 : Int) ^ min (4 * c) 64 = ((15 <<< (4 * c) : Nat) : Int) := by
          rw [Nat.min_eq_left (by omega), pow_cast, Nat.shiftLeft_eq, Int.natCast_mul]; rfl
        rw [e]; exact wrap_N (by omega)
      have han := bits_andNot_N (a := s) (b := 15 <<< (4 * c)) (by omega) (by omega)
      have hxl : s ^^^ (s &&& 15 <<< (4 * c)) < 65536 := Nat.xor_lt_two_pow (n := 16) hs (Nat.lt_of_le_of_lt Nat.and_le_left hs)
      (refine sN (And.intro @hc0 (And.intro @hb (And.intro @hw15 @han))) ?_)
      refine WA_forP (fun k => [(12, J), (13, J), (40, .int .i64 k), (41, J), (42, J), (43, J), (44, J), (45, J), (46, J), (47, J), (48, J), (49, J), (50, J), (51, J), (52, J), (53, J), (54, J), (55, J), (56, J), (57, J), (58, J), (59, J)]) (fun k => [(2, ⟨Is 65536 (inn (tg s) (v s) pv k), true⟩)]) (len (s >>> (4 * c) &&& 15)) ?_ ?_ ?_ <;> (try simp only [PTS])
      · rw [inn_zero]
        (exact sS0)
      · intro k hk
        rw [← inn_next, htg1]
        have hFk := hF (s >>> (4 * c) &&& 15) k
        have hsh := shl_c hFk hc
        have hws := wrap_N (n := F (s >>> (4 * c) &&& 15) k <<< (4 * c)) (by omega)
        have htl := tgN_lt hc hs hFk
        have htd := tgN_or (c := c) (s := s) hFk
        have hr1 := look_old (hrow _ ha) [⟨Vs 16 fun j => sl (g j) 0 (len j) 1, true⟩, ⟨[.int .i64 1000], true⟩, ⟨Is 65536 (inn (tg s) (v s) pv k), true⟩]
        (refine sN (And.intro @hr1 (And.intro @hws (And.intro @htd @min_if))) ?_)
        (exact sS0)
      · (refine sN0 ?_)
        (exact sS0)
  · (refine sN0 ?_)
    (exact sR0)

end Go.Proofs.YtenkjbkcdcionaaGreat
/- Least activity: what memory holds. -/
namespace Go.Proofs.YtenkjbkcdcionaaGreat
set_option linter.unusedSimpArgs false
set_option linter.unusedVariables false
set_option maxRecDepth 20000
set_option maxHeartbeats 1000000
open Go.Abs

theorem patL_mem (m : Nat) (a : Nat → UInt8) (p : Nat) : ∀ (k : Nat) (x : Int), x ∈ patL m a p k → 0 ≤ x ∧ x < k
  | 0, x, h => by simp [patL] at h
  | k + 1, x, h => by
    rw [patL] at h
    split at h
    · rcases List.mem_append.1 h with h | h
      · have := patL_mem m a p k x h; omega
      · have : x = (k : Int) := by simpa using h
        omega
    · have := patL_mem m a p k x h; omega
theorem paF_bd (m : Nat) (a : Nat → UInt8) (p i : Nat) : 0 ≤ paF m a p i ∧ paF m a p i < 16 := by
  show 0 ≤ (patL m a p 16).getD i 0 ∧ (patL m a p 16).getD i 0 < 16
  rw [List.getD_eq_getElem?_getD]
  rcases Nat.lt_or_ge i (patL m a p 16).length with h | h
  · rw [List.getElem?_eq_getElem h]
    exact patL_mem m a p 16 _ (List.getElem_mem h)
  · rw [List.getElem?_eq_none h]
    exact ⟨by show (0 : Int) ≤ 0; omega, by show (0 : Int) < 16; omega⟩
def paN (m : Nat) (a : Nat → UInt8) (p i : Nat) : Nat := (paF m a p i).toNat
theorem paN_lt (m : Nat) (a : Nat → UInt8) (p i : Nat) : paN m a p i < 16 := by
  have := paF_bd m a p i
  unfold paN; omega
theorem paN_is (m : Nat) (a : Nat → UInt8) (p : Nat) : paF m a p = fun i => ((paN m a p i : Nat) : Int) := funext fun i => by
  have := paF_bd m a p i
  unfold paN; omega
theorem paLen_le16 (m : Nat) (a : Nat → UInt8) (j : Nat) : paLen m a j ≤ 1000 := by
  rw [paLen_is]; have := patL_le m a j 16; omega
structure Lay (h M : List Blk) (C : Blk) (cb : Nat) (f : Nat → Int) (pb : Nat) (g len : Nat → Nat) (F : Nat → Nat → Nat) : Prop where
  ci : M[h.length]? = some C
  co : M[cb]? = some ⟨Is 65536 f, true⟩
  sp : M[pb]? = some ⟨Vs 16 fun j => sl (g j) 0 (len j) 1, true⟩
  row : ∀ j, j < 16 → M[g j]? = some ⟨Is (len j) fun i => ((F j i : Nat) : Int), true⟩
  app : ∃ L, M = h ++ L
  nc : h.length < cb
  np : pb ≠ cb
  nr : ∀ j, j < 16 → g j ≠ cb
theorem Lay.set {h M : List Blk} {C : Blk} {cb pb : Nat} {f : Nat → Int} {g len : Nat → Nat} {F : Nat → Nat → Nat} (x : Lay h M C cb f pb g len F) (f' : Nat → Int) : Lay h (M.set cb ⟨Is 65536 f', true⟩) C cb f' pb g len F where
  ci := by rw [List.getElem?_set_ne (by have := x.nc; omega)]; exact x.ci
  co := look_set (blt x.co)
  sp := by rw [List.getElem?_set_ne (Ne.symm x.np)]; exact x.sp
  row := fun j hj => by rw [List.getElem?_set_ne (Ne.symm (x.nr j hj))]; exact x.row j hj
  app := by
    obtain ⟨L, e⟩ := x.app
    exact ⟨L.set (cb - h.length) _, by rw [e]; exact List.set_append_right _ _ (Nat.le_of_lt x.nc)⟩
  nc := x.nc
  np := x.np
  nr := x.nr
theorem Lay.len {h M : List Blk} {C : Blk} {cb pb : Nat} {f : Nat → Int} {g len : Nat → Nat} {F : Nat → Nat → Nat} (x : Lay h M C cb f pb g len F) : h.length < M.length := blt x.ci
theorem Lay.le {h M : List Blk} {C : Blk} {cb pb : Nat} {f : Nat → Int} {g len : Nat → Nat} {F : Nat → Nat → Nat} (x : Lay h M C cb f pb g len F) : h.length ≤ M.length := Nat.le_of_lt (blt x.ci)
theorem Lay.ext {h M : List Blk} {C : Blk} {cb pb : Nat} {f : Nat → Int} {g len : Nat → Nat} {F : Nat → Nat → Nat} (x : Lay h M C cb f pb g len F) {L : List Blk} {k : Nat} {f' : Nat → Int} (hk : L[k]? = some ⟨Is 65536 f', true⟩) : Lay h (M ++ L) C (M.length + k) f' pb g len F where
  ci := look_old x.ci L
  co := by rw [List.getElem?_append_right (by omega), Nat.add_sub_cancel_left]; exact hk
  sp := look_old x.sp L
  row := fun j hj => look_old (x.row j hj) L
  app := by obtain ⟨A, e⟩ := x.app; exact ⟨A ++ L, by rw [e, List.append_assoc]⟩
  nc := by have := x.len; omega
  np := by have := blt x.sp; omega
  nr := fun j hj => by have := blt (x.row j hj); omega
theorem look_in {A L : List Blk} {k : Nat} {x : Blk} (h : L[k]? = some x) : (A ++ L)[A.length + k]? = some x := by rw [List.getElem?_append_right (by omega), Nat.add_sub_cancel_left]; exact h
theorem rows_all (m : Nat) (a : Nat → UInt8) : ∀ n, newL ((List.range n).map (paBl m a)) = true := fun n => by
  unfold newL
  rw [List.all_map, List.all_eq_true]
  intro j _
  show ((paBl m a j).rw || (paBl m a j).cells.isEmpty) = true
  rw [paBl_is]; rfl
theorem newL_app {A B : List Blk} (ha : newL A = true) (hb : newL B = true) : newL (A ++ B) = true := by
  unfold newL at *
  rw [List.all_append, ha, hb]; rfl
theorem rows_at (m : Nat) (a : Nat → UInt8) (T : List Blk) {j : Nat} (hj : j < 16) : ((List.range 16).map (paBl m a) ++ T)[j]? = some ⟨Is (paLen m a j) fun i => ((paN m a j i : Nat) : Int), true⟩ := by
  rw [List.getElem?_append_left (by simpa using hj), List.getElem?_map, List.getElem?_range hj, ← paN_is, ← paBl_Is]; rfl
theorem patS_gen {m : Nat} (h0 : 256 ≤ m) (h1 : m < 512) (hf : fieldB m = true) (bx mx pl : Nat → UInt8) (r : Int) (N : Nat) : ∃ L : List Blk, newL L = true ∧ (∀ j, j < 16 → L[j]? = some ⟨Is (paLen m mx j) fun i => ((paN m mx j i : Nat) : Int), true⟩) ∧
    L[17]? = some ⟨Vs 16 fun j => sl (N + j) 0 (paLen m mx j) 1, true⟩ ∧ ∀ H : List Blk, H.length = N → AC Tryz.prog 45 [.agg (Ci m bx mx pl r).toArray] H (sl (N + 17) 0 16 1) (H ++ L) := by
  refine ⟨(List.range 16).map (paBl m mx) ++ [⟨Ci m bx mx pl r, true⟩, ⟨Vs 16 (vsp N (paLen m mx)), true⟩], newL_app (rows_all m mx 16) rfl, fun j hj => rows_at m mx _ hj, ?_, fun H hN => ?_⟩
  · exact look_in (A := (List.range 16).map (paBl m mx)) (k := 1) rfl
  · have := patS_ac h0 h1 hf bx mx pl r H
    rw [rowsH_len, rowsH_cut, hN] at this
    exact this
theorem patI_gen {m : Nat} (h0 : 256 ≤ m) (h1 : m < 512) (hf : fieldB m = true) (mx : Nat → UInt8) (N : Nat) : ∃ L : List Blk, newL L = true ∧ (∀ j, j < 16 → L[j]? = some ⟨Is (paLen m mx j) fun i => ((paN m mx j i : Nat) : Int), true⟩) ∧
    L.length = 20 ∧ ∀ H : List Blk, H.length = N → AC Tryz.prog 39 [.int .i64 m, .agg (Bs 16 mx).toArray] H (.agg (Vs 16 fun j => sl (N + j) 0 (paLen m mx j) 1).toArray) (H ++ L) := by
  refine ⟨(List.range 16).map (paBl m mx) ++ [⟨Bs 16 mx, true⟩, ⟨Vs 16 (vsp N (paLen m mx)), true⟩, ⟨Is 256 (frF m mx), true⟩, ⟨Vs 16 (vsp N (paLen m mx)), true⟩], newL_app (rows_all m mx 16) rfl, fun j hj => rows_at m mx _ hj, by simp, fun H hN => ?_⟩
  have := patI_ac h0 h1 hf mx H
  rw [rowsH_cut, hN] at this
  exact this
theorem lact_S_no {m r : Int} {bx mx pl : Nat → UInt8} (hc : cipB m bx mx pl r = false) (n : Int) (h : List Blk) : AC Tryz.prog 15 [.agg (Ci m bx mx pl r).toArray, .int .i64 n] h (.tuple #[.int .i64 0, .int .i64 1]) h := by
  (refine AC_begin (fun _ _ => Tryz.call15 _ _) Tryz.func15 rfl Tryz.ntmps15 Tryz.results15 (fun hwf => ?_); simp only [LCN, Nat.reduceAdd, Nat.reduceSub, List.replicate])
  (refine sW @hc @cipS_ac ?_)
  (exact sR0)
theorem lact_S_out {m r : Int} {bx mx pl : Nat → UInt8} (hc : cipB m bx mx pl r = true) {n : Int} (hr : inR n 1 6 = false) (h : List Blk) : AC Tryz.prog 15 [.agg (Ci m bx mx pl r).toArray, .int .i64 n] h (.tuple #[.int .i64 0, .int .i64 2]) h := by
  have hi := inS_ac n 1 6
  rw [hr] at hi
  (refine AC_begin (fun _ _ => Tryz.call15 _ _) Tryz.func15 rfl Tryz.ntmps15 Tryz.results15 (fun hwf => ?_); simp only [LCN, Nat.reduceAdd, Nat.reduceSub, List.replicate])
  (refine sW @hc (And.intro @cipS_ac @hi) ?_)
  (exact sR0)

theorem lact_I_no {m r : Int} {bx mx pl : Nat → UInt8} (hc : cipB m bx mx pl r = false) (n : Int) (h : List Blk) : AC Tryz.prog 14 [.agg (Ci m bx mx pl r).toArray, .int .i64 n] h (.tuple #[.int .i64 0, .int .i64 1]) h := by
  (refine AC_begin (fun _ _ => Tryz.call14 _ _) Tryz.func14 rfl Tryz.ntmps14 Tryz.results14 (fun hwf => ?_); simp only [LCN, Nat.reduceAdd, Nat.reduceSub, List.replicate])
  (refine sW @hc @cipI_ac ?_)
  (exact sR0)
theorem lact_I_out {m r : Int} {bx mx pl : Nat → UInt8} (hc : cipB m bx mx pl r = true) {n : Int} (hr : inR n 1 6 = false) (h : List Blk) : AC Tryz.prog 14 [.agg (Ci m bx mx pl r).toArray, .int .i64 n] h (.tuple #[.int .i64 0, .int .i64 2]) h := by
  have hi := inI_ac n 1 6
  rw [hr] at hi
  (refine AC_begin (fun _ _ => Tryz.call14 _ _) Tryz.func14 rfl Tryz.ntmps14 Tryz.results14 (fun hwf => ?_); simp only [LCN, Nat.reduceAdd, Nat.reduceSub, List.replicate])
  (refine sW @hc (And.intro @cipI_ac @hi) ?_)
  (exact sR0)

end Go.Proofs.YtenkjbkcdcionaaGreat
/- Least activity: the reference. -/
namespace Go.Proofs.YtenkjbkcdcionaaGreat
set_option linter.unusedSimpArgs false
set_option linter.unusedVariables false
set_option maxRecDepth 20000
set_option maxHeartbeats 1000000
open Go.Abs

def onF (k : Nat) : Nat → Int := fun i => if i < k then ((popP i 16 : Nat) : Int) else 0
theorem onF_zero : onF 0 = fun _ => 0 := funext fun i => if_neg (Nat.not_lt_zero i)
theorem onF_next (k : Nat) : upd (onF k) k ((popP k 16 : Nat) : Int) = onF (k + 1) := by
  funext i
  show (if i = k then ((popP k 16 : Nat) : Int) else onF k i) = onF (k + 1) i
  unfold onF
  by_cases h : i = k
  · subst h; rw [if_pos rfl, if_pos (by omega)]
  · rw [if_neg h]
    by_cases h2 : i < k
    · rw [if_pos h2, if_pos (by omega)]
    · rw [if_neg h2, if_neg (by omega)]
theorem onF_all : Is 65536 (upd (onF 65536) 0 1000) = Is 65536 st0 := Is_congr fun i hi => by
  show (if i = 0 then (1000 : Int) else onF 65536 i) = (if i = 0 then (1000 : Int) else ((popP i 16 : Nat) : Int))
  unfold onF; rw [if_pos hi]
theorem lsF_zero (f : Nat → Int) : lsF f 0 = 1000 := rfl
theorem lsF_next (f : Nat → Int) (k : Nat) : (if f k < lsF f k then f k else lsF f k) = lsF f (k + 1) := rfl
theorem itS_zero (pl : Nat → UInt8) (F : Nat → Nat → Nat) (len : Nat → Nat) : itS pl F len 0 = st0 := rfl
theorem itS_next (pl : Nat → UInt8) (F : Nat → Nat → Nat) (len : Nat → Nat) (r : Nat) : rdS pl F len (itS pl F len r) = itS pl F len (r + 1) := rfl
theorem look_at {h X : List Blk} (k : Nat) : (h ++ X)[h.length + k]? = X[k]? := by rw [List.getElem?_append_right (by omega), Nat.add_sub_cancel_left]
theorem lay_1 {h L : List Blk} {C Z : Blk} {f : Nat → Int} {len : Nat → Nat} {F : Nat → Nat → Nat} (hZ : Z = ⟨Is 65536 f, true⟩) (hR : ∀ j, j < 16 → L[j]? = some ⟨Is (len j) fun i => ((F j i : Nat) : Int), true⟩)
    (hS : L[17]? = some ⟨Vs 16 fun j => sl (h.length + 1 + j) 0 (len j) 1, true⟩) : Lay h (h ++ C :: (L ++ [Z])) C (h.length + (L.length + 1)) f (h.length + 18) (fun j => h.length + 1 + j) len F where
  ci := by have := look_at (h := h) (X := C :: (L ++ [Z])) 0; rw [Nat.add_zero] at this; rw [this]; rfl
  co := by rw [look_at, List.getElem?_cons_succ, List.getElem?_append_right (Nat.le_refl _), Nat.sub_self, hZ]; rfl
  sp := by rw [look_at, List.getElem?_cons_succ]; exact look_old hS _
  row := fun j hj => by rw [Nat.add_assoc, look_at, Nat.add_comm 1 j, List.getElem?_cons_succ]; exact look_old (hR j hj) _
  app := ⟨_, rfl⟩
  nc := by omega
  np := by have := blt hS; omega
  nr := fun j hj => by have := blt (hR j hj); omega
theorem lay_2 {h L : List Blk} {C Z : Blk} {f : Nat → Int} {len : Nat → Nat} {F : Nat → Nat → Nat} (hZ : Z = ⟨Is 65536 f, true⟩) (hR : ∀ j, j < 16 → L[j]? = some ⟨Is (len j) fun i => ((F j i : Nat) : Int), true⟩)
    (hS : L[17]? = some ⟨Vs 16 fun j => sl (h.length + 2 + j) 0 (len j) 1, true⟩) : Lay h (h ++ C :: Z :: L) C (h.length + 1) f (h.length + 19) (fun j => h.length + 2 + j) len F where
  ci := by have := look_at (h := h) (X := C :: Z :: L) 0; rw [Nat.add_zero] at this; rw [this]; rfl
  co := by rw [look_at, hZ]; rfl
  sp := by rw [look_at, List.getElem?_cons_succ, List.getElem?_cons_succ]; exact hS
  row := fun j hj => by rw [Nat.add_assoc, look_at, Nat.add_comm 2 j, List.getElem?_cons_succ, List.getElem?_cons_succ]; exact hR j hj
  app := ⟨_, rfl⟩
  nc := by omega
  np := by omega
  nr := fun j hj => by omega
attribute [local irreducible] Is mvM mvC cols inn colN rpF adF tgN Vs lsF itS rdS onF st0 paN paLen paF
attribute [local irreducible] contK
theorem lact_S_op {m n : Nat} {r : Int} {bx mx pl : Nat → UInt8} (h0 : 256 ≤ m) (h1 : m < 512) (hf : fieldB m = true) (hc : cipB m bx mx pl r = true) (hp : plOk pl = true) (hr : inR n 1 6 = true) (hn0 : 1 ≤ n) (hn : n ≤ 6) (h : List Blk) :
    AC Tryz.prog 15 [.agg (Ci m bx mx pl r).toArray, .int .i64 n] h (.tuple #[.int .i64 (lsF (itS pl (paN m mx) (paLen m mx) (n - 1)) 65536), .int .i64 0]) h := by
  have hi := inS_ac n 1 6
  rw [hr] at hi
  have tn : Int.toNat 65536 = 65536 := rfl
  obtain ⟨L1, hN1, hR1, hS1, hA1⟩ := patS_gen h0 h1 hf bx mx pl r (h.length + 1)
  obtain ⟨L2, hN2, hR2, hS2, hA2⟩ := patS_gen h0 h1 hf bx mx pl r (h.length + 2)
  have hNL : NL L1 := ⟨hN1⟩
  have hB1 := hA1 (ro (h ++ [⟨Ci m bx mx pl r, true⟩])) (by simp [ro_length])
  have hB2 := hA2 (h ++ [⟨Ci m bx mx pl r, true⟩, ⟨Is 65536 fun _ => 0, true⟩]) (by simp)
  (refine AC_begin (fun _ _ => Tryz.call15 _ _) Tryz.func15 rfl Tryz.ntmps15 Tryz.results15 (fun hwf => ?_); simp only [LCN, Nat.reduceAdd, Nat.reduceSub, List.replicate])
  (refine sW @hc (And.intro @cipS_ac @hi) ?_)
  refine WA_midG (fun s' => ∃ (H : List Blk) (cb pb : Nat) (g : Nat → Nat), Lay h H ⟨Ci m bx mx pl r, true⟩ cb (fun _ => 0) pb g (paLen m mx) (paN m mx) ∧ s' = ⟨[J, .int .i64 n, pt h.length 0, J, .int .i64 0, .int .i64 0, sl cb 0 65536 1, sl pb 0 16 1, J, J, J, J, J, J, J, J, J, J, J, J, J, J, J, J, J, J, J, J, J, J, J, J, J, J, J, J, J, J, J, J, J, J, J, J, J, J, J, J, J, J, J, J, J, J], H⟩) ?_ ?_
  · (repeat (first | ((first | (refine And.intro ?_ ?_; focus exact PLA) | ((first | with_reducible apply callB_i | with_reducible apply callK_intro | with_reducible apply callQ_i); (focus (first | assumption | ((first | with_reducible apply hB1 | with_reducible apply hB2) <;> (first | assumption | rfl | (simp (disch := omega) only [go_sem]; first | done | rfl) | omega | decide | (simp; done))))); (try exact WP_au)) | refine WA_seq (WA_region ?_) | refine WA_region ?_ | refine WA_exit ?_); try simp (maxSteps := 1000000) (disch := first | omega | rfl | decide | (simp only [LX] <;> omega)) only [go_sem, Nat.reduceAdd, Int.reduceAdd, Int.reduceSub, Int.reduceMul, BNS, tn]) | (refine (WA_rb (id := 5) [2] (SubM.refl _) mixedOk ?_); simp only [LSZ]; (repeat' (first | ((first | (refine And.intro ?_ ?_; focus exact PLA) | ((first | with_reducible apply callB_i | with_reducible apply callK_intro | with_reducible apply callQ_i | with_reducible apply callC_i); (focus (first | assumption | ((first | with_reducible apply hB1 | with_reducible apply hB2) <;> (first | assumption | rfl | (simp (disch := omega) only [go_sem]; first | done | rfl) | omega | decide | (simp; done))))); (try (focus (first | assumption | exact NL.mk rfl))); (try exact WP_au)) | refine RTk true [1] 4 ?_ | refine RB_twoC 2 0 _ (by rfl) (by decide +kernel) (by first | (simp only [go_sem]; done) | fail) ?_ ?_ | refine RB_keep 0 _ (by rfl) (by decide +kernel) (by first | (simp (disch := first | omega | decide) only [go_sem, List.getElem?_nil]; done) | fail) ?_ | refine RTk false [3, 4] 0 ?_ | refine RB_done (by decide +kernel) ?_ | refine REx 2 ?_) <;> try simp (maxSteps := 1000000) (disch := first | omega | rfl | decide | (simp only [LX] <;> omega)) only [go_sem, Nat.reduceAdd, Int.reduceAdd, Int.reduceSub, Int.reduceMul, BNS, tn])))) | refine WA_seq ?_ | refine WA_block ?_ | (refine WA_skip ?_; try simp only [go_sem]) | (refine WA_ret ?_; try simp only [go_sem]) | refine WA_ct rfl ?_ | refine WA_cf rfl ?_))
    · refine ⟨_, ⟨_, _, _, _, lay_1 rfl hR1 hS1, rfl⟩, ?_⟩
      (exact sS0)
    · refine ⟨_, ⟨_, _, _, _, lay_2 rfl hR2 hS2, rfl⟩, ?_⟩
      (exact sS0)
  · rintro _ ⟨H, cb, pb, g, x, rfl⟩
    have hlen := x.le
    (refine sN0 ?_)
    refine WA_forX (fun k s' => ∃ (H : List Blk) (cb pb : Nat) (g : Nat → Nat), Lay h H ⟨Ci m bx mx pl r, true⟩ cb (onF k) pb g (paLen m mx) (paN m mx) ∧ s' = ⟨[J, .int .i64 n, pt h.length 0, J, .int .i64 0, .int .i64 0, sl cb 0 65536 1, sl pb 0 16 1, .int .i64 k, J, J, J, J, J, J, J, J, J, J, J, J, J, J, J, J, J, J, J, J, J, J, J, J, J, J, J, J, J, J, J, J, J, J, J, J, J, J, J, J, J, J, J, J, J], H⟩) 65536 ?_ ?_ ?_
    · refine ⟨_, ⟨H, cb, pb, g, by rw [onF_zero]; exact x, rfl⟩, ?_⟩
      (exact sA0)
    · rintro k hk _ ⟨H, cb, pb, g, x, rfl⟩
      have hlen := x.le
      have hco := x.co
      (refine sW (And.intro @hco @onF_next) (bitsS_ac hk) ?_)
      have hle2 := (x.set (onF (k + 1))).le
      refine ⟨_, ⟨_, cb, pb, g, x.set (onF (k + 1)), rfl⟩, ?_⟩
      (exact sA0)
    · rintro _ ⟨H, cb, pb, g, x, rfl⟩
      have hlen := x.le
      have hco := x.co
      (refine sN @hco ?_)
      have x2 := x.set st0
      rw [onF_all]
      generalize H.set cb ⟨Is 65536 st0, true⟩ = H2 at *
      have hlen := x2.le
      refine WA_forX (fun k s' => ∃ (H : List Blk) (cb pb : Nat) (g : Nat → Nat), Lay h H ⟨Ci m bx mx pl r, true⟩ cb (itS pl (paN m mx) (paLen m mx) k) pb g (paLen m mx) (paN m mx) ∧ s' = ⟨[J, .int .i64 n, pt h.length 0, J, .int .i64 0, .int .i64 0, sl cb 0 65536 1, sl pb 0 16 1, J, .int .i64 ((k + 2 : Nat) : Int), J, J, J, J, J, J, J, J, J, J, J, J, J, J, J, J, J, J, J, J, J, J, J, J, J, J, J, J, J, J, J, J, J, J, J, J, J, J, J, J, J, J, J, J], H⟩) (n - 1) ?_ ?_ ?_
      · refine ⟨_, ⟨H2, cb, pb, g, by rw [itS_zero]; exact x2, rfl⟩, ?_⟩
        (exact sA0)
      · rintro k hk _ ⟨H, cb, pb, g, x, rfl⟩
        have hci := x.ci
        have hrd := rdS_ac (m := (m : Int)) (r := r) (bx := bx) (mx := mx) (pl := pl) x.sp x.row (paN_lt m mx) (paLen_le16 m mx) x.co (itS_bd hp _ _ (show k ≤ 20 by omega))
        rw [itS_next] at hrd
        have x3 := x.ext (L := [⟨Ci m bx mx pl r, true⟩, ⟨Is 65536 (itS pl (paN m mx) (paLen m mx) (k + 1)), true⟩]) (k := 1) rfl
        have hlen := x3.le
        (refine sW @hci @hrd ?_)
        refine ⟨_, ⟨_, _, pb, g, x3, by rw [show k + 1 + 2 = k + 2 + 1 by omega]⟩, ?_⟩
        (exact sA0)
      · rintro _ ⟨H, cb, pb, g, x, rfl⟩
        have hlen := x.le
        have hco := x.co
        generalize itS pl (paN m mx) (paLen m mx) (n - 1) = f at *
        (refine sN0 ?_)
        refine WA_forH (fun k => [(10, .int .i64 (lsF f k)), (11, .int .i64 k), (43, J), (44, J), (45, J), (46, J), (47, J), (48, J), (49, J), (50, J), (51, J), (52, J)]) (fun k => H) (65536) ?_ ?_ ?_ <;> (try simp only [PTS])
        · rw [lsF_zero]
          (exact sA0)
        · intro k hk
          (refine sN (And.intro @hco @lsF_next) ?_)
          (exact sA0)
        · obtain ⟨A, hA⟩ := x.app
          rw [hA]
          (refine sN0 ?_)
          (exact sR0)

end Go.Proofs.YtenkjbkcdcionaaGreat
