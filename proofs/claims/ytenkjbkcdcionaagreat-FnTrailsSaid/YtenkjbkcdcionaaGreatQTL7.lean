/- A part of the proof of FnTrails. -/
import Derived.Test.YtenkjbkcdcionaaGreatQTLH
import Derived.Test.YtenkjbkcdcionaaGreatQTL0
import Derived.Test.YtenkjbkcdcionaaGreatQTL2
import Derived.Test.YtenkjbkcdcionaaGreatQTL3
import Derived.Test.YtenkjbkcdcionaaGreatQTL4
import Derived.Test.YtenkjbkcdcionaaGreatQTL6
/- CyclesOfPlaces: both sides. -/
namespace Go.Proofs.YtenkjbkcdcionaaGreat
set_option linter.unusedSimpArgs false
set_option linter.unusedVariables false
set_option maxRecDepth 20000
set_option maxHeartbeats 1000000
open Go.Abs

def vsp (b0 : Nat) (len : Nat → Nat) : Nat → Value := fun j => sl (b0 + j) 0 (len j) 1
theorem Fit_spineV0 {N n' k b0 : Nat} {len : Nat → Nat} {r : List Nat} (hN : b0 + k ≤ N) (hn : N ≤ n') : Fit N r n' ⟨Vs k (vsp b0 len), true⟩ ⟨Vs k (vsp b0 len), true⟩ := by
  refine Fit_ren ?_ (fun h => h) ?_
  · show Vs k _ = (Vs k _).map (renC N r)
    unfold Vs
    rw [List.map_map]
    refine List.map_congr_left fun j hj => ?_
    have := List.mem_range.1 hj
    show sl (b0 + j) 0 (len j) 1 = Value.slice (some (renA N r ⟨b0 + j, 0, none⟩)) (len j) 1
    unfold renA
    rw [rhoF_old (by show b0 + j < N; omega)]
  · intro c hc
    obtain ⟨j, hj, rfl⟩ := List.mem_map.1 (show c ∈ (List.range k).map _ from hc)
    have := List.mem_range.1 hj
    show b0 + j < n'
    omega
theorem Fit_spineVS {N n' k b0 z : Nat} {len : Nat → Nat} {r : List Nat} (hN : N = b0 + k) {q : Nat} (hq : q = N + r.getD 0 0) (hz : z = len k) (hn : N < n') :
    Fit N r n' ⟨Vs k (vsp b0 len) ++ [sl q 0 z 1], true⟩ ⟨Vs (k + 1) (vsp b0 len), true⟩ := by
  subst hz
  refine Fit_ren ?_ (fun h => h) ?_
  · show Vs k _ ++ [sl q 0 (len k) 1] = (Vs (k + 1) (vsp b0 len)).map (renC N r)
    unfold Vs
    rw [List.range_succ, List.map_append, List.map_append]
    congr 1
    · rw [List.map_map]
      refine List.map_congr_left fun j hj => ?_
      have := List.mem_range.1 hj
      show sl (b0 + j) 0 (len j) 1 = Value.slice (some (renA N r ⟨b0 + j, 0, none⟩)) (len j) 1
      unfold renA
      rw [rhoF_old (by show b0 + j < N; omega)]
    · show [sl q 0 (len k) 1] = [Value.slice (some (renA N r ⟨b0 + k, 0, none⟩)) (len k) 1]
      unfold renA
      rw [show b0 + k = N from hN.symm, rhoF_new0, hq]
  · intro c hc
    obtain ⟨j, hj, rfl⟩ := List.mem_map.1 (show c ∈ (List.range (k + 1)).map _ from hc)
    have := List.mem_range.1 hj
    show b0 + j < n'
    omega
theorem Fit_Ts {N n' n : Nat} {r : List Nat} {f : Nat → Bool} : Fit N r n' ⟨Ts n f, true⟩ ⟨Ts n f, true⟩ := Fit_plain (by unfold Ts Vs; rw [List.all_map, List.all_eq_true]; exact fun _ _ => rfl)
attribute [local irreducible] cyC cyRow cyD cyI cyL vsp
end Go.Proofs.YtenkjbkcdcionaaGreat
/- What FnPlaces needs: cycles told with memory opaque, rows compared. -/
namespace Go.Proofs.YtenkjbkcdcionaaGreat
set_option linter.unusedSimpArgs false
set_option linter.unusedVariables false
set_option maxRecDepth 20000
set_option maxHeartbeats 1000000
open Go.Abs

attribute [local irreducible] cyC cyRow
inductive CyV (p : Nat → UInt8) (h : List Blk) : Value → Prop
  | no (hp : plOk p = false) : CyV p h (.slice none 0 0)
  | ok (hp : plOk p = true) {b : Nat} {g : Nat → Nat} {r r' : Bool} (hb : h[b]? = some ⟨Vs (cyC p 16) fun j => sl (g j) 0 (cyRow p j).length 1, r⟩) (hr : ∀ j, j < cyC p 16 → h[g j]? = some ⟨Il (cyRow p j), r'⟩) : CyV p h (sl b 0 (cyC p 16) 1)
theorem CyV.app {p : Nat → UInt8} {h : List Blk} {v : Value} (c : CyV p h v) (L : List Blk) : CyV p (h ++ L) v := by
  cases c with
  | no hp => exact .no hp
  | ok hp hb hr => exact .ok hp (look_old hb L) fun j hj => look_old (hr j hj) L
theorem CyV.ro {p : Nat → UInt8} {h : List Blk} {v : Value} (c : CyV p h v) : CyV p (ro h) v := by
  cases c with
  | no hp => exact .no hp
  | ok hp hb hr => exact .ok hp (ro_of hb) fun j hj => ro_of (hr j hj)
theorem WA_wf {P : Program} {n0 : Nat} {c : Code} {Q : Exit → AS → Prop} {t : List Value} {H : List Blk} (k : WfH H → WA P n0 c Q ⟨t, H⟩) : WA P n0 c Q ⟨t, H⟩ := fun E a w hn hs => k hs.mem.wf E a w hn hs
def OldV (N : Nat) (v : Value) : Prop := ∀ (r : List Nat) (n' : Nat), N ≤ n' → v = renV N r v ∧ wfV n' v
theorem JR_old {N n' : Nat} {r : List Nat} {a : Value} {l l' : List Value} (ho : OldV N a) (hn : N ≤ n') (h : JR N r n' l l') : JR N r n' (a :: l) (a :: l') := ⟨.inr (ho r n' hn), h⟩
theorem OldV_plain {N : Nat} {v : Value} (h : plainV v = true) : OldV N v := fun _ _ _ => ⟨(renV_plain h).symm, plainV_wf h⟩
theorem OldV_sl {N b o n z : Nat} (h : b < N) : OldV N (sl b o n z) := fun r n' hn => by
  refine ⟨?_, show b < n' by omega⟩
  show sl b o n z = Value.slice (some (renA N r ⟨b, o, none⟩)) n z
  unfold renA
  rw [rhoF_old h]
theorem Cv.old {h : List Blk} {cv : Value} {N : Nat} (c : Cv h cv) (hN : h.length ≤ N) : OldV N cv := by
  cases c with
  | nil => exact OldV_plain rfl
  | sl hb hn => exact OldV_sl (Nat.lt_of_lt_of_le (blt hb) hN)
theorem Drop_gc0 {m : Nat} {t t' : List Value} {H L : List Blk} (hm : m ≤ H.length) (hwf : WfH H) (hj : JR H.length [] H.length t t') : Drop m ⟨t, H ++ L⟩ ⟨t', H⟩ := by
  have := Drop_gc (m := m) [] (L := L) (L' := []) hm hwf (by decide) trivial (by rw [List.append_nil]; exact hj)
  rwa [List.append_nil] at this
theorem app_tr {h H K : List Blk} (e : ∃ A, H = h ++ A) (e2 : ∃ A, K = H ++ A) : ∃ A, K = h ++ A := by
  obtain ⟨A, rfl⟩ := e
  obtain ⟨B, rfl⟩ := e2
  exact ⟨A ++ B, List.append_assoc ..⟩
end Go.Proofs.YtenkjbkcdcionaaGreat
/- Counts of columns and patterns: the reference. -/
namespace Go.Proofs.YtenkjbkcdcionaaGreat
set_option linter.unusedSimpArgs false
set_option linter.unusedVariables false
set_option maxRecDepth 20000
set_option maxHeartbeats 1000000
open Go.Abs

theorem rank_comp {m R C : Nat} (hC : C < 16) (a : Nat → UInt8) : (rkI m (cn R 4) (fun q c => a (kp R q * 4 + kp C c)) (cn C 4)).r = (rkS m (cn R 4) C (E0 R a) 4).r := by
  have := rk_eq (m := m) (L := cn R 4) hC (E0 R a) 4 (by omega)
  have e : (fun q c => E0 R a q (kp C c)) = fun q c => a (kp R q * 4 + kp C c) := rfl
  rw [← e, this]; rfl
theorem free_le (m : Nat) (a : Nat → UInt8) (R C : Nat) : (rkS m (cn R 4) C (E0 R a) 4).r ≤ cn C 4 := by
  have h := fr_rank m (cn R 4) C (E0 R a) 4 (Nat.le_refl _)
  have e1 : cn C (4 - 4) = 0 := rfl
  have e2 : (rkS m (cn R 4) C (E0 R a) (4 - 4)).r = 0 := rfl
  rw [e1, e2] at h
  omega
theorem and_bit (C k : Nat) : (C >>> k) &&& 1 = if C.testBit k = true then 1 else 0 := by
  rw [Nat.testBit_eq_decide_div_mod_eq, Nat.shiftRight_eq_div_pow, Nat.and_one_is_mod]
  by_cases h : C / 2 ^ k % 2 = 1
  · rw [h]; rfl
  · rw [if_neg (by simpa using h)]; omega
theorem vecS_ac {m : Nat} (h0 : 256 ≤ m) (h1 : m < 512) (hf : fieldB m = true) (a : Nat → UInt8) {C Y : Nat} (hC : C < 16) (hY : Y < 16) (h : List Blk) :
    AC Tryz.prog 106 [.int .i64 m, .agg (Bs 16 a).toArray, .int .i64 C, .int .i64 Y] h (.int .i64 ((256 ^ freeN m a (15 ^^^ Y) C : Nat) : Int)) h := by
  have hR : 15 ^^^ Y < 16 := flip_lt Y hY
  have hfl := flip_bit Y hY
  have hfr : freeN m a (15 ^^^ Y) C = cn C 4 - (rkS m (cn (15 ^^^ Y) 4) C (E0 (15 ^^^ Y) a) 4).r := rfl
  have hrc := rank_comp (m := m) (R := 15 ^^^ Y) hC a
  have hfle := free_le m a (15 ^^^ Y) C
  generalize 15 ^^^ Y = R at *
  have hL := cn_le R 4
  have hnc := cn_le C 4
  generalize hE : (fun q c => a (kp R q * 4 + kp C c)) = E1
  have hE1 : ∀ q, E1 q = fun c => a (kp R q * 4 + kp C c) := fun q => by rw [← hE]
  rw [hE] at hrc
  (refine AC_begin (fun _ _ => Tryz.call106 _ _) Tryz.func106 rfl Tryz.ntmps106 Tryz.results106 (fun hwf => ?_); simp only [LCN, Nat.reduceAdd, Nat.reduceSub, List.replicate])
  (refine sN0 ?_)
  refine WA_forP (fun k => [(9, .int .i64 ((cn C k : Nat) : Int)), (11, .int .i64 k), (18, J), (19, J), (20, J), (21, J), (22, J), (23, J), (24, J), (25, J), (26, J), (27, J), (28, J)]) (fun k => []) (4) ?_ ?_ ?_ <;> (try simp only [PTS])
  · (exact sS (show cn C 0 = 0 from rfl))
  · intro j hj
    have hsC := Nat.shiftRight_le C j
    have hcl := cn_le C j
    have hcs : cn C j + ((C >>> j) &&& 1) = cn C (j + 1) := by rw [and_bit]; rfl
    have hle1 : (C >>> j) &&& 1 ≤ 1 := Nat.and_le_right
    (refine sN @hcs ?_)
    (exact sS0)
  · (refine sN0 ?_)
    refine WA_forH (fun k => [(5, pt (rowsH h (Rw (cn C 4) E1) (cn R k)).length 0), (10, sl ((rowsH h (Rw (cn C 4) E1) (cn R k)).length + 1) 0 (cn R k) 1), (12, .int .i64 k), (13, J), (14, J), (17, J), (29, J), (30, J), (31, J), (32, J), (33, J), (34, J), (35, J), (36, J), (37, J), (38, J), (39, J), (40, J), (41, J), (42, J), (43, J), (44, J), (45, J), (46, J), (47, J), (48, J), (49, J), (50, J), (51, J), (52, J), (53, J), (54, J), (55, J), (56, J), (57, J), (58, J), (59, J), (60, J), (61, J)]) (fun k => rowsH h (Rw (cn C 4) E1) (cn R k) ++ [⟨Bs 16 a, true⟩, ⟨Vs (cn R k) (spF h.length (cn C 4) fun j => j), true⟩]) (4) ?_ ?_ ?_ <;> (try simp only [PTS])
    · rw [show cn R 0 = 0 from rfl, rowsH_zero]
      (exact sS0)
    · intro i hi
      have hle := cn_le R i
      have hsY := Nat.shiftRight_le Y i
      have hmo := cn_mono R (j := i) 4 (by omega)
      have hwj := rowsH_wf (k := cn R i) hwf (Rw_plain (cn C 4) E1)
      have hll := rowsH_len h (Rw (cn C 4) E1) (cn R i)
      have hyb := and_bit Y i
      cases hb : Y.testBit i
      · have hb2 : R.testBit i = true := by rw [hfl i hi, hb]; rfl
        rw [hb, if_neg (by decide)] at hyb
        (refine sN @hyb ?_)
        have hrow : Rw (cn C 4) E1 (cn R i) = ⟨Bs (cn C 4) fun c => a (i * 4 + kp C c), true⟩ := by unfold Rw; rw [hE1, kp_cn R hR i hi hb2]
        refine WA_forP (fun k => [(13, sl ((rowsH h (Rw (cn C 4) E1) (cn R i)).length + 2) 0 (cn C k) 1), (14, .int .i64 k), (39, J), (40, J), (41, J), (42, J), (43, J), (44, J), (45, J), (46, J), (47, J), (48, J), (49, J), (50, J), (51, J), (52, J), (53, J), (54, J), (55, J), (56, J), (57, J)]) (fun k => [(2, ⟨Bs (cn C k) fun c => a (i * 4 + kp C c), true⟩)]) (4) ?_ ?_ ?_ <;> (try simp only [PTS])
        · (refine Drop_slots (by first | exact Nat.le_refl _ | (rw [List.length_append, rowsH_len]; omega)) ?_; focus ((try simp only [JL_same, JL_J, JL_nil, Int.reduceAdd, Nat.sub_sub, ICS, Bool.false_eq_true, if_false, if_true, show cn C 0 = 0 from rfl]); (try exact JL_refl _)))
        · intro j hj
          have hlc := cn_le C j
          have hsC := Nat.shiftRight_le C j
          have hcb := and_bit C j
          cases hc : C.testBit j
          · rw [hc, if_neg (by decide)] at hcb
            (refine sN @hcb ?_)
            rw [cn_f hc]
            (refine Drop_slots (by first | exact Nat.le_refl _ | (rw [List.length_append, rowsH_len]; omega)) ?_; focus ((try simp only [JL_same, JL_J, JL_nil, Int.reduceAdd, Nat.sub_sub, ICS, Bool.false_eq_true, if_false, if_true]); (try exact JL_refl _)))
          · rw [hc, if_pos rfl] at hcb
            have hsn : Bs (cn C j) (fun c => a (i * 4 + kp C c)) ++ [B (a (i * 4 + j))] = Bs (cn C (j + 1)) fun c => a (i * 4 + kp C c) := by
              rw [cn_t hc]; unfold Bs; rw [List.range_succ, List.map_append]; congr 1
              show [B (a (i * 4 + j))] = [B (a (i * 4 + kp C (cn C j)))]
              rw [kp_cn C hC j hj hc]
            (refine sN (And.intro @hcb (And.intro @lit1W (And.intro @sub1 @hsn))) ?_)
            (refine Drop_gc [0, 1, 4] (by first | omega | first | assumption | omega | (simp only [LRP]; omega)) (by assumption) (by decide) ?_ ?_; (focus (repeat (first | exact trivial | (refine And.intro ⟨_, rfl, ?_⟩ ?_; (focus first | (refine Fit_plain ?_; simp only [go_sem, ALS]; done) | exact Fit_nil rfl | exact Fit_dead | (refine Fit_eq ?_ ?_; (focus simp only [go_sem, ALS]); (focus (first | rfl | (simp only [ICS, cn_t hc]; done) | (simp only [ICS, cn_t hc]; rfl)))) | (refine Fit_spine0 ?_ ?_; (focus omega); (focus (simp only [LAC]; omega))) | (refine Fit_spineS ?_ ?_ ?_; (focus first | omega | assumption); (focus rfl); (focus (simp only [LAC]; omega)))))))); (focus (repeat (first | exact JR_nil | refine JR_J ?_ | (refine JR_plain ?_ ?_; (focus first | rfl | (refine plain_agg ?_; simp only [go_sem, ALS]; done))) | ((first | refine JR_pt ?_ ?_ ?_ | refine JR_sl ?_ ?_ ?_); (focus first | (rw [rhoF_new0]; rfl) | (rw [rhoF_new]; rfl) | (rw [rhoF_old]; first | assumption | omega)); (focus first | assumption | omega | (simp only [LRP]; omega))) | (refine JR_plain' ?_ ?_ ?_; (focus first | rfl | (refine plain_agg ?_; simp only [go_sem, ALS]; done)); (focus (first | rfl | (simp only [ICS, cn_t hc]; done) | (simp only [ICS, cn_t hc]; rfl)))) | (refine JR_sl' ?_ ?_ ?_ ?_; (focus first | (rw [rhoF_new0]; rfl) | (rw [rhoF_new]; rfl) | (rw [rhoF_old]; first | assumption | omega)); (focus first | assumption | omega | (simp only [LRP]; omega)); (focus first | rfl | omega | (first | rfl | (simp only [ICS, cn_t hc]; done) | (simp only [ICS, cn_t hc]; rfl))))))))
        · (refine sN (And.intro @lit1W @sub1) ?_)
          rw [cn_t hb2, rowsH_app, rowsH_lenS, hrow]
          simp only [Nat.add_assoc, Nat.reduceAdd]
          (refine Drop_gc [2, 0, 4] (by first | omega | first | assumption | omega | (simp only [LRP]; omega)) (by assumption) (by decide) ?_ ?_; (focus (repeat (first | exact trivial | (refine And.intro ⟨_, rfl, ?_⟩ ?_; (focus first | (refine Fit_plain ?_; simp only [go_sem, ALS]; done) | exact Fit_nil rfl | exact Fit_dead | (refine Fit_eq ?_ ?_; (focus simp only [go_sem, ALS]); (focus (first | rfl | (simp only [ICS]; done) | (simp only [ICS]; rfl)))) | (refine Fit_spine0 ?_ ?_; (focus omega); (focus (simp only [LAC]; omega))) | (refine Fit_spineS ?_ ?_ ?_; (focus first | omega | assumption); (focus rfl); (focus (simp only [LAC]; omega)))))))); (focus (repeat (first | exact JR_nil | refine JR_J ?_ | (refine JR_plain ?_ ?_; (focus first | rfl | (refine plain_agg ?_; simp only [go_sem, ALS]; done))) | ((first | refine JR_pt ?_ ?_ ?_ | refine JR_sl ?_ ?_ ?_); (focus first | (rw [rhoF_new0]; rfl) | (rw [rhoF_new]; rfl) | (rw [rhoF_old]; first | assumption | omega)); (focus first | assumption | omega | (simp only [LRP]; omega))) | (refine JR_plain' ?_ ?_ ?_; (focus first | rfl | (refine plain_agg ?_; simp only [go_sem, ALS]; done)); (focus (first | rfl | (simp only [ICS]; done) | (simp only [ICS]; rfl)))) | (refine JR_sl' ?_ ?_ ?_ ?_; (focus first | (rw [rhoF_new0]; rfl) | (rw [rhoF_new]; rfl) | (rw [rhoF_old]; first | assumption | omega)); (focus first | assumption | omega | (simp only [LRP]; omega)); (focus first | rfl | omega | (first | rfl | (simp only [ICS]; done) | (simp only [ICS]; rfl))))))))
      · have hb2 : R.testBit i = false := by rw [hfl i hi, hb]; rfl
        rw [hb, if_pos rfl] at hyb
        (refine sN @hyb ?_)
        rw [cn_f hb2]
        (refine Drop_slots (by first | exact Nat.le_refl _ | (rw [List.length_append, rowsH_len]; omega)) ?_; focus ((try simp only [JL_same, JL_J, JL_nil, Int.reduceAdd, Nat.sub_sub, ICS, Bool.false_eq_true, if_false, if_true]); (try exact JL_refl _)))
    · have hrk := rankL_ac h0 h1 hf (L := cn R 4) (nc := cn C 4) hL hnc E1 h ⟨Bs 16 a, true⟩
      have hrr : (rkI m (cn R 4) E1 (if cn R 4 = 0 then 0 else cn C 4)).r = (rkS m (cn R 4) C (E0 R a) 4).r := by
        by_cases hz : cn R 4 = 0
        · rw [if_pos hz]
          have := (rkS_inv m (cn R 4) C (E0 R a) 4).2
          show 0 = _
          omega
        · rw [if_neg hz, hrc]
      rw [hrr] at hrk
      generalize (rkI m (cn R 4) E1 (if cn R 4 = 0 then 0 else cn C 4)).E = Ex at hrk
      generalize (rkI m (cn R 4) E1 (if cn R 4 = 0 then 0 else cn C 4)).s = sx at hrk
      generalize (rkS m (cn R 4) C (E0 R a) 4).r = rk at *
      rw [hfr]
      have hll2 := rowsH_len h (Rw (cn C 4) E1) (cn R 4)
      have hadd : (rowsH h (Rw (cn C 4) E1) (cn R 4)).length + 1 = h.length + (cn R 4 + 1) := by omega
      rw [hadd]
      (refine sW0 @hrk ?_)
      refine WA_forH (fun k => [(15, .int .i64 ((256 ^ k : Nat) : Int)), (16, .int .i64 ((cn C 4 - rk - k : Nat))), (67, J), (68, J), (69, J), (70, J), (71, J), (72, J)]) (fun k => rowsH h (Rw (cn C 4) Ex) (cn R 4) ++ [⟨Bs 16 a, true⟩, ⟨Vs (cn R 4) (spF h.length (cn C 4) sx), true⟩]) (cn C 4 - rk) ?_ ?_ ?_ <;> (try simp only [PTS])
      · (refine Drop_slots (by first | exact Nat.le_refl _ | (simp only [List.length_append, rowsH_len, List.length_cons, List.length_nil]; omega) | (simp only [List.length_append, rowsH_len, List.length_cons, List.length_nil, Nat.le_refl]; done)) ?_; focus ((try simp only [JL_same, JL_J, JL_nil, Int.reduceAdd, Nat.sub_sub, ICS, Bool.false_eq_true, if_false, if_true]); (try exact JL_refl _)))
      · intro k hk
        have hp : 256 ^ (k + 1) ≤ 256 ^ 4 := Nat.pow_le_pow_right (by omega) (by omega)
        have hpm : 256 ^ k * 256 = 256 ^ (k + 1) := rfl
        (refine sN (And.intro (decide_eq_true (show 0 < cn C 4 - rk - k by omega)) @hpm) ?_)
        (refine Drop_slots (by first | exact Nat.le_refl _ | (simp only [List.length_append, rowsH_len, List.length_cons, List.length_nil]; omega) | (simp only [List.length_append, rowsH_len, List.length_cons, List.length_nil, Nat.le_refl]; done)) ?_; focus ((try simp only [JL_same, JL_J, JL_nil, Int.reduceAdd, Nat.sub_sub, ICS, Bool.false_eq_true, if_false, if_true, Nat.add_assoc]); (try exact JL_refl _)))
      · (refine sN @Nat.sub_self ?_)
        rw [rowsH_cut]
        (exact sR0)

end Go.Proofs.YtenkjbkcdcionaaGreat
/- Which patterns become which: the reference. -/
namespace Go.Proofs.YtenkjbkcdcionaaGreat
set_option linter.unusedSimpArgs false
set_option linter.unusedVariables false
set_option maxRecDepth 20000
set_option maxHeartbeats 1000000
open Go.Abs

theorem sumI_le {f : Nat → Int} {c : Int} : ∀ {n : Nat}, (∀ i, i < n → -c ≤ f i ∧ f i ≤ c) → -(n * c) ≤ sumI f n ∧ sumI f n ≤ n * c
  | 0, _ => by show -((0 : Nat) * c) ≤ 0 ∧ 0 ≤ ((0 : Nat) : Int) * c; simp
  | n + 1, h => by
    have h1 := sumI_le (f := f) (c := c) (n := n) fun i hi => h i (by omega)
    have h2 := h n (by omega)
    unfold sumI
    rw [Int.natCast_succ, Int.add_mul, Int.one_mul]
    omega
def sgP (K : Nat) : Nat → Int
  | 0 => 1
  | j + 1 => if K.testBit j = true then -sgP K j else sgP K j
theorem sgP_t {K j : Nat} (h : K.testBit j = true) : sgP K (j + 1) = -sgP K j := by rw [sgP, if_pos h]
theorem sgP_f {K j : Nat} (h : K.testBit j = false) : sgP K (j + 1) = sgP K j := by rw [sgP, h]; rfl
theorem sgP_le (K : Nat) : ∀ j, sgP K j = 1 ∨ sgP K j = -1
  | 0 => .inl rfl
  | j + 1 => by
    rw [sgP]
    rcases sgP_le K j with h | h <;> rw [h] <;> split <;> simp
theorem sgP_all : ∀ u, u < 16 → ∀ w, w < 16 → sgP (u + 16 * w) (blen (u + 16 * w)) = sgn u * sgn w := by decide +kernel
theorem sgn_le (n : Nat) : sgn n = 1 ∨ sgn n = -1 := by unfold sgn; split <;> simp
theorem free_4 (m : Nat) (a : Nat → UInt8) (R C : Nat) : (256 : Nat) ^ freeN m a R C ≤ 4294967296 := by
  have h1 : freeN m a R C ≤ 4 := by have := cn_le C 4; unfold freeN; omega
  exact Nat.le_trans (Nat.pow_le_pow_right (by omega) h1) (by decide)
def trmS (m : Nat) (a : Nat → UInt8) (p q x y : Nat) : Int := (if x &&& p = x then sgn (p ^^^ x) else 0) * (if y &&& q = y then sgn (q ^^^ y) else 0) * (256 : Int) ^ freeN m a (15 ^^^ y) x
theorem pow_castN (n : Nat) : (256 : Int) ^ n = ((256 ^ n : Nat) : Int) := by simp
theorem trmS_le (m : Nat) (a : Nat → UInt8) (p q x y : Nat) : -(4294967296 : Int) ≤ trmS m a p q x y ∧ trmS m a p q x y ≤ 4294967296 := by
  have h := free_4 m a (15 ^^^ y) x
  unfold trmS
  rw [pow_castN]
  generalize 256 ^ freeN m a (15 ^^^ y) x = V at *
  rcases sgn_le (p ^^^ x) with h1 | h1 <;> rcases sgn_le (q ^^^ y) with h2 | h2 <;> rw [h1, h2] <;> (split <;> split <;> simp <;> omega)
theorem trmS_no {m : Nat} {a : Nat → UInt8} {p q x y : Nat} (h : ¬ (x &&& p = x ∧ y &&& q = y)) : trmS m a p q x y = 0 := by
  unfold trmS
  by_cases h1 : x &&& p = x
  · rw [if_neg (fun h2 => h ⟨h1, h2⟩), Int.mul_zero, Int.zero_mul]
  · rw [if_neg h1, Int.zero_mul, Int.zero_mul]
theorem trmS_yes {m : Nat} {a : Nat → UInt8} {p q x y : Nat} (h1 : x &&& p = x) (h2 : y &&& q = y) : trmS m a p q x y = sgn (p ^^^ x) * sgn (q ^^^ y) * ((256 ^ freeN m a (15 ^^^ y) x : Nat) : Int) := by
  unfold trmS; rw [if_pos h1, if_pos h2, pow_castN]
theorem row_le (m : Nat) (a : Nat → UInt8) (p q x k : Nat) : -((k : Int) * 4294967296) ≤ sumI (trmS m a p q x) k ∧ sumI (trmS m a p q x) k ≤ (k : Int) * 4294967296 := sumI_le fun i _ => trmS_le m a p q x i
theorem all_le (m : Nat) (a : Nat → UInt8) (p q k : Nat) : -((k : Int) * 68719476736) ≤ sumI (fun x => sumI (trmS m a p q x) 16) k ∧ sumI (fun x => sumI (trmS m a p q x) 16) k ≤ (k : Int) * 68719476736 :=
  sumI_le fun i _ => by have := row_le m a p q i 16; omega
theorem natne (x y : Nat) : (((x : Nat) : Int) != ((y : Nat) : Int)) = !decide (x = y) := by
  by_cases h : x = y
  · subst h; simp
  · rw [decide_eq_false h, Bool.not_false, bne_iff_ne]; omega
set_option maxHeartbeats 4000000 in
theorem becS_ac {m : Nat} (h0 : 256 ≤ m) (h1 : m < 512) (hf : fieldB m = true) (a : Nat → UInt8) {p q : Nat} (hp : p < 16) (hq : q < 16) (h : List Blk) :
    AC Tryz.prog 83 [.int .i64 m, .agg (Bs 16 a).toArray, .int .i64 p, .int .i64 q] h (.bool (decide (0 < manyF m a p q))) h := by
  rw [← many_S h0 h1 hf a hp hq]
  show AC _ _ _ _ (.bool (decide (0 < sumI (fun x => sumI (trmS m a p q x) 16) 16))) _
  (refine AC_begin (fun _ _ => Tryz.call83 _ _) Tryz.func83 rfl Tryz.ntmps83 Tryz.results83 (fun hwf => ?_); simp only [LCN, Nat.reduceAdd, Nat.reduceSub, List.replicate])
  (refine sN (@yieldA_at 5 27) ?_)
  refine WA_forP (fun k => [(9, .int .i64 (sumI (fun x => sumI (trmS m a p q x) 16) k)), (10, .int .i64 k), (11, J), (12, J), (13, J), (14, J), (15, J), (16, J), (17, J), (18, J), (19, J), (20, J), (21, J), (22, J), (23, J), (24, J), (25, J), (26, J), (27, J), (28, J), (29, J), (30, J), (31, J), (32, J), (33, J), (34, J), (35, J), (36, J), (37, J), (38, J), (39, J), (40, J), (41, J), (42, J), (43, J), (44, J), (45, J), (46, J), (47, J), (48, J), (49, J), (50, J), (51, J), (52, J), (53, J), (54, J), (55, J), (56, J), (57, J), (58, J), (59, J)]) (fun k => [(0, ⟨Bs 16 a, true⟩)]) (16) ?_ ?_ ?_ <;> (try simp only [PTS])
  · (exact sS (show sumI (fun x => sumI (trmS m a p q x) 16) 0 = 0 from rfl))
  · intro x hx
    have hall := all_le m a p q x
    have hnx : sumI (fun x => sumI (trmS m a p q x) 16) x + sumI (trmS m a p q x) 16 = sumI (fun x => sumI (trmS m a p q x) 16) (x + 1) := rfl
    rw [← hnx]
    generalize sumI (fun x => sumI (trmS m a p q x) 16) x = S0 at *
    (refine sN (@yieldA_at 5 27) ?_)
    refine WA_forP (fun k => [(9, .int .i64 (S0 + sumI (trmS m a p q x) k)), (11, .int .i64 k), (12, J), (13, J), (18, J), (19, J), (20, J), (21, J), (22, J), (23, J), (24, J), (25, J), (26, J), (27, J), (28, J), (29, J), (30, J), (31, J), (32, J), (33, J), (34, J), (35, J), (36, J), (37, J), (38, J), (39, J), (40, J), (41, J), (42, J), (43, J), (44, J), (45, J), (46, J), (47, J), (48, J), (49, J), (50, J), (51, J), (52, J), (53, J), (54, J), (55, J), (56, J), (57, J), (58, J), (59, J)]) (fun k => [(0, ⟨Bs 16 a, true⟩)]) (16) ?_ ?_ ?_ <;> (try simp only [PTS])
    · (exact sS (And.intro (show sumI (trmS m a p q x) 0 = 0 from rfl) @Int.add_zero))
    · intro y hy
      have hrow := row_le m a p q x y
      have hrow2 := row_le m a p q x (y + 1)
      have hny : sumI (trmS m a p q x) (y + 1) = sumI (trmS m a p q x) y + trmS m a p q x y := rfl
      rw [hny] at hrow2 ⊢
      have hax := bits_and_N (a := x) (b := p) (by omega) (by omega)
      have hay := bits_and_N (a := y) (b := q) (by omega) (by omega)
      by_cases hm : x &&& p = x ∧ y &&& q = y
      · have ht := trmS_yes (m := m) (a := a) hm.1 hm.2
        have hu : p ^^^ x < 16 := sub_lt x hx p hp
        have hw : q ^^^ y < 16 := sub_lt y hy q hq
        have hxx := bits_xor_N (a := p) (b := x) (by omega) (by omega)
        have hxy := bits_xor_N (a := q) (b := y) (by omega) (by omega)
        have hsg := sgP_all _ hu _ hw
        have hv := vecS_ac h0 h1 hf a hx hy
        have hv4 := free_4 m a (15 ^^^ y) x
        rw [ht] at hrow2 ⊢
        generalize sumI (trmS m a p q x) y = S1 at *
        generalize 256 ^ freeN m a (15 ^^^ y) x = V at *
        generalize p ^^^ x = u at *
        generalize q ^^^ y = w at *
        (refine sN (And.intro @hax (And.intro @hay (And.intro @natne (And.intro (decide_eq_true hm.1) (And.intro (decide_eq_true hm.2) (And.intro @hxx (And.intro @hxy (@yieldA_at 5 27)))))))) ?_)
        refine WA_forP (fun k => [(12, .int .i64 (sgP (u + 16 * w) k)), (13, .int .i64 (((u + 16 * w) >>> k : Nat))), (42, J), (43, J), (44, J), (45, J), (46, J), (47, J), (48, J), (49, J), (50, J)]) (fun k => [(0, ⟨Bs 16 a, true⟩)]) (blen (u + 16 * w)) ?_ ?_ ?_ <;> (try simp only [PTS])
        · (exact sS (And.intro (show sgP (u + 16 * w) 0 = 1 from rfl) @Nat.shiftRight_zero))
        · intro j hj
          have hpp := blen_pos hj
          have hs := Nat.shiftRight_le (u + 16 * w) j
          have hww := wrap_N (n := (u + 16 * w) >>> (j + 1)) (Nat.lt_of_le_of_lt (Nat.shiftRight_le (u + 16 * w) (j + 1)) (by omega))
          have hneg : IntKind.i64.wrap (0 - sgP (u + 16 * w) j) = -sgP (u + 16 * w) j := by
            rw [Int.zero_sub]
            rcases sgP_le (u + 16 * w) j with h | h <;> rw [h] <;> rfl
          cases hb : (u + 16 * w).testBit j
          · (refine sN (And.intro @hb (And.intro @hww (@yieldA_at 5 27))) ?_)
            (exact sS (sgP_f hb))
          · (refine sN (And.intro @hb (And.intro @hww (And.intro @hneg (@yieldA_at 5 27)))) ?_)
            (exact sS (sgP_t hb))
        · rw [hsg]
          have hmw : IntKind.i64.wrap (sgn u * sgn w * ((V : Nat) : Int)) = sgn u * sgn w * ((V : Nat) : Int) := by
            rcases sgn_le u with h | h <;> rcases sgn_le w with h' | h' <;> rw [h, h'] <;> exact wrap_i64 (by simp <;> omega) (by simp <;> omega)
          have haw : IntKind.i64.wrap (S0 + S1 + sgn u * sgn w * ((V : Nat) : Int)) = S0 + (S1 + sgn u * sgn w * ((V : Nat) : Int)) := by
            rw [Int.add_assoc]; exact wrap_i64 (by omega) (by omega)
          (refine sW (And.intro @blen_done (And.intro @hmw (And.intro @haw (@yieldA_at 5 27)))) @hv ?_)
          (exact sS0)
      · have ht := trmS_no (m := m) (a := a) hm
        rw [ht, Int.add_zero]
        by_cases h3 : x &&& p = x
        · have h4 : ¬ y &&& q = y := fun h5 => hm ⟨h3, h5⟩
          (refine sN (And.intro @hax (And.intro @hay (And.intro @natne (And.intro (decide_eq_true h3) (And.intro (decide_eq_false h4) (@yieldA_at 5 27)))))) ?_)
          (exact sS0)
        · (refine sN (And.intro @hax (And.intro @hay (And.intro @natne (And.intro (decide_eq_false h3) (@yieldA_at 5 27))))) ?_)
          (exact sS0)
    · (refine sN (@yieldA_at 5 27) ?_)
      (exact sS0)
  · (refine sN (@yieldA_at 5 27) ?_)
    (exact sR0)

end Go.Proofs.YtenkjbkcdcionaaGreat
/- Best trails. -/
namespace Go.Proofs.YtenkjbkcdcionaaGreat
set_option linter.unusedSimpArgs false
set_option linter.unusedVariables false
set_option maxRecDepth 20000
set_option maxHeartbeats 1000000
open Go.Abs

section
variable (m : Nat) (bx mx pl : Nat → UInt8)
def trF (d : Nat → UInt8) (n : Nat) : Nat → Nat → UInt8
  | 0 => d
  | k + 1 => layF m mx pl (bsF bx (trF d n k)) (k + 1 == n)
def trsF (d : Nat → UInt8) (n : Nat) : Nat → UInt8 := fun i => trF m bx mx pl d n (i / 16) (i % 16)
theorem trsF_zero (d : Nat → UInt8) (n : Nat) : Bs ((0 + 1) * 16) (trsF m bx mx pl d n) = Bs 16 d := Bs_congr fun i hi => by
  unfold trsF; rw [show i / 16 = 0 by omega, show i % 16 = i by omega]; rfl
theorem trsF_snoc (d : Nat → UInt8) (n k : Nat) : Bs ((k + 1) * 16) (trsF m bx mx pl d n) ++ Bs 16 (trF m bx mx pl d n (k + 1)) = Bs ((k + 1 + 1) * 16) (trsF m bx mx pl d n) := by
  rw [show (k + 1 + 1) * 16 = (k + 1) * 16 + 16 by omega]
  exact Bs_snoc16 fun t ht => by unfold trsF; rw [show ((k + 1) * 16 + t) / 16 = k + 1 by omega, show ((k + 1) * 16 + t) % 16 = t by omega]
end

theorem trailOS_no {m r : Int} {bx mx pl : Nat → UInt8} (hc : cipB m bx mx pl r = false) (d : Nat → UInt8) (n : Int) (h : List Blk) : AC Tryz.prog 11 [.agg (Ci m bx mx pl r).toArray, .agg (Bs 16 d).toArray, .int .i64 n] h (.tuple #[.slice none 0 0, .int .i64 1]) h := by
  (refine AC_begin (fun _ _ => Tryz.call11 _ _) Tryz.func11 rfl Tryz.ntmps11 Tryz.results11 (fun hwf => ?_); simp only [LCN, Nat.reduceAdd, Nat.reduceSub, List.replicate])
  (refine sW @hc @cipS_ac ?_)
  (exact sR0)
theorem trailOS_out {m r : Int} {bx mx pl : Nat → UInt8} (hc : cipB m bx mx pl r = true) (d : Nat → UInt8) {n : Int} (hr : inR n 1 6 = false) (h : List Blk) : AC Tryz.prog 11 [.agg (Ci m bx mx pl r).toArray, .agg (Bs 16 d).toArray, .int .i64 n] h (.tuple #[.slice none 0 0, .int .i64 2]) h := by
  have hi := inS_ac n 1 6
  rw [hr] at hi
  (refine AC_begin (fun _ _ => Tryz.call11 _ _) Tryz.func11 rfl Tryz.ntmps11 Tryz.results11 (fun hwf => ?_); simp only [LCN, Nat.reduceAdd, Nat.reduceSub, List.replicate])
  (refine sW @hc (And.intro @cipS_ac @hi) ?_)
  (exact sR0)

theorem trailOI_no {m r : Int} {bx mx pl : Nat → UInt8} (hc : cipB m bx mx pl r = false) (d : Nat → UInt8) (n : Int) (h : List Blk) : AC Tryz.prog 10 [.agg (Ci m bx mx pl r).toArray, .agg (Bs 16 d).toArray, .int .i64 n] h (.tuple #[.slice none 0 0, .int .i64 1]) h := by
  (refine AC_begin (fun _ _ => Tryz.call10 _ _) Tryz.func10 rfl Tryz.ntmps10 Tryz.results10 (fun hwf => ?_); simp only [LCN, Nat.reduceAdd, Nat.reduceSub, List.replicate])
  (refine sW @hc @cipI_ac ?_)
  (exact sR0)
theorem trailOI_out {m r : Int} {bx mx pl : Nat → UInt8} (hc : cipB m bx mx pl r = true) (d : Nat → UInt8) {n : Int} (hr : inR n 1 6 = false) (h : List Blk) : AC Tryz.prog 10 [.agg (Ci m bx mx pl r).toArray, .agg (Bs 16 d).toArray, .int .i64 n] h (.tuple #[.slice none 0 0, .int .i64 2]) h := by
  have hi := inI_ac n 1 6
  rw [hr] at hi
  (refine AC_begin (fun _ _ => Tryz.call10 _ _) Tryz.func10 rfl Tryz.ntmps10 Tryz.results10 (fun hwf => ?_); simp only [LCN, Nat.reduceAdd, Nat.reduceSub, List.replicate])
  (refine sW @hc (And.intro @cipI_ac @hi) ?_)
  (exact sR0)

theorem trailOS_z_ok {m n : Nat} {r : Int} (h0 : 256 ≤ m) (h1 : m < 512) {bx mx pl : Nat → UInt8} (hc : cipB m bx mx pl r = true) (hp : plOk pl = true) (d : Nat → UInt8) (hr : inR n 1 6 = true) (hn : n ≤ 6) (h : List Blk) :
    AC Tryz.prog 11 [.agg (Ci m bx mx pl r).toArray, .agg (Bs 16 d).toArray, .int .i64 n] h (.tuple #[sl (h.length + 2) 0 (n + 1) 16, .int .i64 0])
      (h ++ [⟨Ci m bx mx pl r, true⟩, ⟨Bs 16 (trF m bx mx pl d n n), true⟩, ⟨Bs ((n + 1) * 16) (trsF m bx mx pl d n), true⟩]) := by
  have hi := inS_ac n 1 6
  rw [hr] at hi
  have hp' : ∀ i, i < 16 → (pl i).toNat < 16 := fun i hi => plOk_lt hp hi
  (refine AC_begin (fun _ _ => Tryz.call11 _ _) Tryz.func11 rfl Tryz.ntmps11 Tryz.results11 (fun hwf => ?_); simp only [LCN, Nat.reduceAdd, Nat.reduceSub, List.replicate])
  (refine sW (And.intro @hc @lit1) (And.intro @cipS_ac @hi) ?_)
  refine WA_forP (fun k => [(8, sl (h.length + 2) 0 (k + 1) 16), (9, .int .i64 ((k + 1 : Nat) : Int)), (19, J), (20, J), (21, J), (22, J), (23, J), (24, J), (25, J), (26, J), (27, J), (28, J), (29, J), (30, J), (31, J), (32, J), (33, J), (34, J)]) (fun k => [(1, ⟨Bs 16 (trF m bx mx pl d n k), true⟩), (2, ⟨Bs ((k + 1) * 16) (trsF m bx mx pl d n), true⟩)]) (n) ?_ ?_ ?_ <;> (try simp only [PTS])
  · rw [trsF_zero, show trF m bx mx pl d n 0 = d from rfl]
    (exact sS0)
  · intro j hj
    (refine sW (And.intro @lit1 (show layF m mx pl (bsF bx (trF m bx mx pl d n j)) (j + 1 == n) = trF m bx mx pl d n (j + 1) from rfl)) (bestS_ac h0 h1 _ _ _ hp') ?_)
    (exact gCE @trsF_snoc [0, 1, 4])
  · (refine sN0 ?_)
    (exact sR0)
theorem trailOS_ok {m n : Nat} {r : Int} (h0 : 256 ≤ m) (h1 : m < 512) {bx mx pl : Nat → UInt8} (hc : cipB m bx mx pl r = true) (hp : plOk pl = true) (d : Nat → UInt8) (hr : inR n 1 6 = true) (hn : n ≤ 6) (h : List Blk) :
    AC Tryz.prog 11 [.agg (Ci m bx mx pl r).toArray, .agg (Bs 16 d).toArray, .int .i64 n] h (.tuple #[sl h.length 0 (n + 1) 16, .int .i64 0])
      (h ++ [⟨Bs ((n + 1) * 16) (trsF m bx mx pl d n), true⟩]) := by
  (refine AC_gc [2] (trailOS_z_ok h0 h1 hc hp d hr hn h) (by decide) ?_ ?_ ?_; (focus (repeat (first | exact trivial | (refine And.intro ⟨_, rfl, ?_⟩ ?_; (focus first | (refine Fit_plain ?_; simp only [go_sem, ALS]; done) | exact Fit_nil rfl | exact Fit_dead | (refine Fit_eq ?_ ?_; (focus simp only [go_sem, ALS]); (focus (first | rfl | (simp only [ICS]; done) | (simp only [ICS]; rfl))))))))); (focus first | (refine renV_sl ?_; first | (rw [rhoF_new0]; rfl) | (rw [rhoF_new]; rfl) | (rw [rhoF_old]; first | assumption | omega)) | (refine renV_pt ?_; first | (rw [rhoF_new0]; rfl) | (rw [rhoF_new]; rfl) | (rw [rhoF_old]; first | assumption | omega)) | (refine renV_two ?_ ?_; (focus first | (refine ren1_sl ?_; first | (rw [rhoF_new0]; rfl) | (rw [rhoF_new]; rfl) | (rw [rhoF_old]; first | assumption | omega)) | rfl); (focus rfl)) | rfl | (refine (renV_plain ?_).symm; first | rfl | (refine plain_agg ?_; simp only [go_sem, ALS]; done))); (focus first | (simp only [wfV, wf1, wfC, LAC]; omega) | (refine wfV_two ?_ ?_; (focus simp only [wf1, wfC, LAC]; omega); (focus trivial)) | (refine plainV_wf ?_; (focus first | rfl | (refine plain_agg ?_; simp only [go_sem, ALS]; done)); done)))

theorem trailOI_z_ok {m n : Nat} {r : Int} (h0 : 256 ≤ m) (h1 : m < 512) {bx mx pl : Nat → UInt8} (hc : cipB m bx mx pl r = true) (hp : plOk pl = true) (d : Nat → UInt8) (hr : inR n 1 6 = true) (hn1 : 1 ≤ n) (hn : n ≤ 6) (h : List Blk) :
    AC Tryz.prog 10 [.agg (Ci m bx mx pl r).toArray, .agg (Bs 16 d).toArray, .int .i64 n] h (.tuple #[sl (h.length + 7) 0 (n + 1) 16, .int .i64 0])
      (h ++ [⟨Ci m bx mx pl r, true⟩, ⟨Bs 16 (trF m bx mx pl d n n), true⟩, ⟨Ci m bx mx pl r, true⟩, ⟨Bs 16 (backF m mx), true⟩, ⟨Bs 4096 (mixT m mx), true⟩, ⟨Bs 4096 (mixT m (backF m mx)), true⟩, ⟨En bx (invP bx 256) pl (invP pl 16) (pt (h.length + 4) 0) (pt (h.length + 5) 0) r, true⟩, ⟨Bs ((n + 1) * 16) (trsF m bx mx pl d n), true⟩]) := by
  have hi := inI_ac n 1 6
  rw [hr] at hi
  have hp' : ∀ i, i < 16 → (pl i).toNat < 16 := fun i hi => plOk_lt hp hi
  (refine AC_begin (fun _ _ => Tryz.call10 _ _) Tryz.func10 rfl Tryz.ntmps10 Tryz.results10 (fun hwf => ?_); simp only [LCN, Nat.reduceAdd, Nat.reduceSub, List.replicate])
  (refine sW @hc (And.intro @cipI_ac @hi) ?_)
  refine WA_midP [(8, pt (h.length + 6) 0), (9, sl (h.length + 7) 0 1 16), (19, J), (20, J), (21, J), (22, J)] [⟨Ci m bx mx pl r, true⟩, ⟨Bs 16 d, true⟩, ⟨Ci m bx mx pl r, true⟩, ⟨Bs 16 (backF m mx), true⟩, ⟨Bs 4096 (mixT m mx), true⟩, ⟨Bs 4096 (mixT m (backF m mx)), true⟩, ⟨En bx (invP bx 256) pl (invP pl 16) (pt (h.length + 4) 0) (pt (h.length + 5) 0) r, true⟩, ⟨Bs 16 d, true⟩] ?_ ?_ <;> (try simp only [PTS])
  · (repeat (first | ((first | (refine And.intro ?_ ?_; focus exact PLA) | ((first | with_reducible apply callB_i | with_reducible apply callK_intro | with_reducible apply callQ_i); (focus (first | assumption | (with_reducible apply newEngine_ac h0 h1 _ _ hp <;> (first | assumption | rfl | (simp (disch := omega) only [go_sem]; first | done | rfl) | omega | decide | (simp; done))))); (try exact WP_au)) | refine WA_seq (WA_region ?_) | refine WA_region ?_ | refine WA_exit ?_); try simp (maxSteps := 1000000) (disch := first | omega | rfl | decide | (simp only [LX] <;> omega)) only [go_sem, Nat.reduceAdd, Int.reduceAdd, Int.reduceSub, Int.reduceMul, BNS, lit1]) | (refine (WA_rb (id := 5) [] (SubM.refl _) mixedOk ?_); simp only [LSZ]; (repeat' (first | ((first | (refine And.intro ?_ ?_; focus exact PLA) | ((first | with_reducible apply callB_i | with_reducible apply callK_intro | with_reducible apply callQ_i | with_reducible apply callC_i); (focus (first | assumption | (with_reducible apply newEngine_ac h0 h1 _ _ hp <;> (first | assumption | rfl | (simp (disch := omega) only [go_sem]; first | done | rfl) | omega | decide | (simp; done))))); (try (focus (exact NL.mk rfl))); (try exact WP_au)) | refine RTk true [0, 2] 4 ?_ | refine RB_twoC 1 3 _ (by rfl) (by decide +kernel) (by first | (simp only [go_sem]; done) | fail) ?_ ?_ | refine RTk false [4] 2 ?_ | refine RB_keep 3 _ (by rfl) (by decide +kernel) (by first | (simp (disch := first | omega | decide) only [go_sem, List.getElem?_nil]; done) | fail) ?_ | refine RTk false [5] 0 ?_ | refine RB_done (by decide +kernel) ?_ | refine RB_keepC 1 _ (by rfl) (by decide +kernel) ?_ | refine RTk false [4, 5] 0 ?_) <;> try simp (maxSteps := 1000000) (disch := first | omega | rfl | decide | (simp only [LX] <;> omega)) only [go_sem, Nat.reduceAdd, Int.reduceAdd, Int.reduceSub, Int.reduceMul, BNS, lit1])))) | refine WA_seq ?_ | refine WA_block ?_ | (refine WA_skip ?_; try simp only [go_sem]) | (refine WA_ret ?_; try simp only [go_sem]) | refine WA_ct rfl ?_ | refine WA_cf rfl ?_))
    all_goals first | (exact sS0) | (refine Drop_gc [0, 1, 3, 4, 5, 6, 7, 2] (by first | exact Nat.le_refl _ | first | assumption | omega | (simp only [LRP]; omega)) (by assumption) (by decide) ?_ ?_; (focus (repeat (first | exact trivial | (refine And.intro ⟨_, rfl, ?_⟩ ?_; (focus first | (refine Fit_plain ?_; simp only [go_sem, ALS]; done) | exact Fit_nil rfl | exact Fit_dead | (refine Fit_eq ?_ ?_; (focus simp only [go_sem, ALS]); (focus (first | rfl | (simp only [ICS]; done) | (simp only [ICS]; rfl)))) | (refine Fit_En ?_ ?_ ?_ ?_; (focus first | (rw [rhoF_new0]; rfl) | (rw [rhoF_new]; rfl) | (rw [rhoF_old]; first | assumption | omega)); (focus first | (rw [rhoF_new0]; rfl) | (rw [rhoF_new]; rfl) | (rw [rhoF_old]; first | assumption | omega)); (focus first | assumption | omega | (simp only [LRP]; omega)); (focus first | assumption | omega | (simp only [LRP]; omega)))))))); (focus (repeat (first | exact JR_nil | refine JR_J ?_ | (refine JR_plain ?_ ?_; (focus first | rfl | (refine plain_agg ?_; simp only [go_sem, ALS]; done))) | ((first | refine JR_pt ?_ ?_ ?_ | refine JR_sl ?_ ?_ ?_); (focus first | (rw [rhoF_new0]; rfl) | (rw [rhoF_new]; rfl) | (rw [rhoF_old]; first | assumption | omega)); (focus first | assumption | omega | (simp only [LRP]; omega))) | (refine JR_plain' ?_ ?_ ?_; (focus first | rfl | (refine plain_agg ?_; simp only [go_sem, ALS]; done)); (focus (first | rfl | (simp only [ICS]; done) | (simp only [ICS]; rfl)))) | (refine JR_sl' ?_ ?_ ?_ ?_; (focus first | (rw [rhoF_new0]; rfl) | (rw [rhoF_new]; rfl) | (rw [rhoF_old]; first | assumption | omega)); (focus first | assumption | omega | (simp only [LRP]; omega)); (focus first | rfl | omega | (first | rfl | (simp only [ICS]; done) | (simp only [ICS]; rfl))))))))
  (refine sN0 ?_)
  refine WA_forP (fun k => [(9, sl (h.length + 7) 0 (k + 1) 16), (10, J), (24, .int .i64 k), (25, J), (26, J), (27, J), (28, J), (29, J), (30, J), (31, J), (32, J), (33, J), (34, J), (35, J), (36, J), (37, J), (38, J)]) (fun k => [(1, ⟨Bs 16 (trF m bx mx pl d n k), true⟩), (7, ⟨Bs ((k + 1) * 16) (trsF m bx mx pl d n), true⟩)]) (n) ?_ ?_ ?_ <;> (try simp only [PTS])
  · rw [trsF_zero, show trF m bx mx pl d n 0 = d from rfl]
    (exact sS0)
  · intro j hj
    have hl : (j == n - 1) = (j + 1 == n) := by rw [Bool.eq_iff_iff]; simp; omega
    (refine sY (And.intro @lit1 (And.intro @hl (show layF m mx pl (bsF bx (trF m bx mx pl d n j)) (j + 1 == n) = trF m bx mx pl d n (j + 1) from rfl))) @bestI_ac ?_)
    (refine Drop_gc [0, 1, 2, 3, 4, 5, 6, 9] (by first | exact Nat.le_refl _ | first | assumption | omega | (simp only [LRP]; omega)) (by assumption) (by decide) ?_ ?_; (focus (repeat (first | exact trivial | (refine And.intro ⟨_, rfl, ?_⟩ ?_; (focus first | (refine Fit_plain ?_; simp only [go_sem, ALS]; done) | exact Fit_nil rfl | exact Fit_dead | (refine Fit_eq ?_ ?_; (focus simp only [go_sem, ALS]); (focus (first | rfl | (simp only [ICS, trsF_snoc]; done) | (simp only [ICS, trsF_snoc]; rfl)))) | (refine Fit_En ?_ ?_ ?_ ?_; (focus first | (rw [rhoF_new0]; rfl) | (rw [rhoF_new]; rfl) | (rw [rhoF_old]; first | assumption | omega)); (focus first | (rw [rhoF_new0]; rfl) | (rw [rhoF_new]; rfl) | (rw [rhoF_old]; first | assumption | omega)); (focus first | assumption | omega | (simp only [LRP]; omega)); (focus first | assumption | omega | (simp only [LRP]; omega)))))))); (focus (repeat (first | exact JR_nil | refine JR_J ?_ | (refine JR_plain ?_ ?_; (focus first | rfl | (refine plain_agg ?_; simp only [go_sem, ALS]; done))) | ((first | refine JR_pt ?_ ?_ ?_ | refine JR_sl ?_ ?_ ?_); (focus first | (rw [rhoF_new0]; rfl) | (rw [rhoF_new]; rfl) | (rw [rhoF_old]; first | assumption | omega)); (focus first | assumption | omega | (simp only [LRP]; omega))) | (refine JR_plain' ?_ ?_ ?_; (focus first | rfl | (refine plain_agg ?_; simp only [go_sem, ALS]; done)); (focus (first | rfl | (simp only [ICS, trsF_snoc]; done) | (simp only [ICS, trsF_snoc]; rfl)))) | (refine JR_sl' ?_ ?_ ?_ ?_; (focus first | (rw [rhoF_new0]; rfl) | (rw [rhoF_new]; rfl) | (rw [rhoF_old]; first | assumption | omega)); (focus first | assumption | omega | (simp only [LRP]; omega)); (focus first | rfl | omega | (first | rfl | (simp only [ICS, trsF_snoc]; done) | (simp only [ICS, trsF_snoc]; rfl))))))))
  · (refine sN0 ?_)
    (exact sR0)
theorem trailOI_ok {m n : Nat} {r : Int} (h0 : 256 ≤ m) (h1 : m < 512) {bx mx pl : Nat → UInt8} (hc : cipB m bx mx pl r = true) (hp : plOk pl = true) (d : Nat → UInt8) (hr : inR n 1 6 = true) (hn1 : 1 ≤ n) (hn : n ≤ 6) (h : List Blk) :
    AC Tryz.prog 10 [.agg (Ci m bx mx pl r).toArray, .agg (Bs 16 d).toArray, .int .i64 n] h (.tuple #[sl h.length 0 (n + 1) 16, .int .i64 0])
      (h ++ [⟨Bs ((n + 1) * 16) (trsF m bx mx pl d n), true⟩]) := by
  (refine AC_gc [7] (trailOI_z_ok h0 h1 hc hp d hr hn1 hn h) (by decide) ?_ ?_ ?_; (focus (repeat (first | exact trivial | (refine And.intro ⟨_, rfl, ?_⟩ ?_; (focus first | (refine Fit_plain ?_; simp only [go_sem, ALS]; done) | exact Fit_nil rfl | exact Fit_dead | (refine Fit_eq ?_ ?_; (focus simp only [go_sem, ALS]); (focus (first | rfl | (simp only [ICS]; done) | (simp only [ICS]; rfl))))))))); (focus first | (refine renV_sl ?_; first | (rw [rhoF_new0]; rfl) | (rw [rhoF_new]; rfl) | (rw [rhoF_old]; first | assumption | omega)) | (refine renV_pt ?_; first | (rw [rhoF_new0]; rfl) | (rw [rhoF_new]; rfl) | (rw [rhoF_old]; first | assumption | omega)) | (refine renV_two ?_ ?_; (focus first | (refine ren1_sl ?_; first | (rw [rhoF_new0]; rfl) | (rw [rhoF_new]; rfl) | (rw [rhoF_old]; first | assumption | omega)) | rfl); (focus rfl)) | rfl | (refine (renV_plain ?_).symm; first | rfl | (refine plain_agg ?_; simp only [go_sem, ALS]; done))); (focus first | (simp only [wfV, wf1, wfC, LAC]; omega) | (refine wfV_two ?_ ?_; (focus simp only [wf1, wfC, LAC]; omega); (focus trivial)) | (refine plainV_wf ?_; (focus first | rfl | (refine plain_agg ?_; simp only [go_sem, ALS]; done)); done)))

end Go.Proofs.YtenkjbkcdcionaaGreat
