/- FnCiphers is proved: whatever the input, the law returns true and its arguments read as they did. No condition. -/
import Derived.Test.YtcfpninklbnifaaQCQH
import Derived.Test.YtcfpninklbnifaaQCQ1
import Derived.Test.YtcfpninklbnifaaQCQ2
import Derived.Test.YtcfpninklbnifaaQCQ3
import Derived.Test.YtcfpninklbnifaaQCQ4
import Derived.Test.YtcfpninklbnifaaQCQ5
import Derived.Test.YtcfpninklbnifaaQCQ6
import Derived.Test.YtcfpninklbnifaaQCQ7
import Derived.Test.YtcfpninklbnifaaQCQ8
/- What FnPlaces needs: cycles told with memory opaque, rows compared. -/
namespace Go.Proofs.Ytcfpninklbnifaa
set_option linter.unusedSimpArgs false
set_option linter.unusedVariables false
set_option maxRecDepth 20000
set_option maxHeartbeats 1000000
open Go.Abs

attribute [local irreducible] cyC cyRow
/-- The cycles of places, as returned. -/
inductive CyV (p : Nat → UInt8) (h : List Blk) : Value → Prop
  | no (hp : plOk p = false) : CyV p h (.slice none 0 0)
  | ok (hp : plOk p = true) {b : Nat} {g : Nat → Nat} {r r' : Bool} (hb : h[b]? = some ⟨Vs (cyC p 16) fun j => sl (g j) 0 (cyRow p j).length 1, r⟩) (hr : ∀ j, j < cyC p 16 → h[g j]? = some ⟨Il (cyRow p j), r'⟩) : CyV p h (sl b 0 (cyC p 16) 1)
theorem CyV.app {p : Nat → UInt8} {h : List Blk} {v : Value} (c : CyV p h v) (L : List Blk) : CyV p (h ++ L) v := by
  cases c with
  | no hp => exact .no hp
  | ok hp hb hr => exact .ok hp (look_old hb L) fun j hj => look_old (hr j hj) L
theorem WA_wf {P : Program} {n0 : Nat} {c : Code} {Q : Exit → AS → Prop} {t : List Value} {H : List Blk} (k : WfH H → WA P n0 c Q ⟨t, H⟩) : WA P n0 c Q ⟨t, H⟩ := fun E a w hn hs => k hs.mem.wf E a w hn hs
/-- A value that knows the first N blocks alone. -/
def OldV (N : Nat) (v : Value) : Prop := ∀ (r : List Nat) (n' : Nat), N ≤ n' → v = renV N r v ∧ wfV n' v
theorem JR_old {N n' : Nat} {r : List Nat} {a : Value} {l l' : List Value} (ho : OldV N a) (hn : N ≤ n') (h : JR N r n' l l') : JR N r n' (a :: l) (a :: l') := ⟨.inr (ho r n' hn), h⟩
theorem OldV_plain {N : Nat} {v : Value} (h : plainV v = true) : OldV N v := fun _ _ _ => ⟨(renV_plain h).symm, plainV_wf h⟩
theorem OldV_sl {N b o n z : Nat} (h : b < N) : OldV N (sl b o n z) := fun r n' hn => by
  refine ⟨?_, show b < n' by omega⟩
  show sl b o n z = Value.slice (some (renA N r ⟨b, o, none⟩)) n z
  unfold renA
  rw [rhoF_old h]
theorem Cv.old {h : List Blk} {cv : Value} {N : Nat} (c : Cv h cv) (hN : h.length ≤ N) : OldV N cv := by
  cases c with
  | nil => exact OldV_plain rfl
  | sl hb hn => exact OldV_sl (Nat.lt_of_lt_of_le (blt hb) hN)
/-- What stands behind is given up. -/
theorem Drop_gc0 {m : Nat} {t t' : List Value} {H L : List Blk} (hm : m ≤ H.length) (hwf : WfH H) (hj : JR H.length [] H.length t t') : Drop m ⟨t, H ++ L⟩ ⟨t', H⟩ := by
  have := Drop_gc (m := m) [] (L := L) (L' := []) hm hwf (by decide) trivial (by rw [List.append_nil]; exact hj)
  rwa [List.append_nil] at this
theorem app_tr {h H K : List Blk} (e : ∃ A, H = h ++ A) (e2 : ∃ A, K = H ++ A) : ∃ A, K = h ++ A := by
  obtain ⟨A, rfl⟩ := e
  obtain ⟨B, rfl⟩ := e2
  exact ⟨A ++ B, List.append_assoc ..⟩
end Go.Proofs.Ytcfpninklbnifaa
/- FnCiphers. -/
namespace Go.Proofs.Ytcfpninklbnifaa
set_option linter.unusedSimpArgs false
set_option linter.unusedVariables false
set_option maxRecDepth 20000
set_option maxHeartbeats 1000000
open Go.Abs

theorem eqB_of' {n : Nat} {f g : Nat → UInt8} (h : ∀ i, i < n → f i = g i) : eqB n f g = true := eqB_iff.2 h
def enF (m : Int) (bx mx pl y s : Nat → UInt8) (r n : Int) : Nat → UInt8 := cond (cipB m bx mx pl r && inR n 0 r) (encF m.toNat bx mx pl y s n.toNat) zeroF
def deF (m : Int) (bx mx pl y s : Nat → UInt8) (r n : Int) : Nat → UInt8 := cond (cipB m bx mx pl r && inR n 0 r) (decF m.toNat bx mx pl y s n.toNat) zeroF
def enT (m : Int) (bx mx pl y s : Nat → UInt8) (r : Int) : Nat → UInt8 := cond (cipB m bx mx pl r) (encF m.toNat bx mx pl y s r.toNat) zeroF
def deT (m : Int) (bx mx pl y s : Nat → UInt8) (r : Int) : Nat → UInt8 := cond (cipB m bx mx pl r) (decF m.toNat bx mx pl y s r.toNat) zeroF
theorem codeN_is (m : Int) (bx mx pl : Nat → UInt8) (r n : Int) : (codeN m bx mx pl r n == 0) = (cipB m bx mx pl r && inR n 0 r) := by unfold codeN; cases cipB m bx mx pl r <;> cases inR n 0 r <;> rfl
theorem cipC_is (m : Int) (bx mx pl : Nat → UInt8) (r : Int) : (cipC m bx mx pl r == 0) = cipB m bx mx pl r := by unfold cipC; cases cipB m bx mx pl r <;> rfl
theorem cipC_isn (m : Int) (bx mx pl : Nat → UInt8) (r : Int) : (cipC m bx mx pl r != 0) = !cipB m bx mx pl r := by unfold cipC; cases cipB m bx mx pl r <;> rfl
theorem inR_cip {m : Int} {bx mx pl : Nat → UInt8} {r : Int} (hc : cipB m bx mx pl r = true) : inR r 0 r = true := by
  obtain ⟨p, rfl, _, _, _, _, _, q, rfl, _, _⟩ := cipB_nat hc
  exact inR_self
theorem cip_box {m : Int} {bx mx pl : Nat → UInt8} {r : Int} (hc : cipB m bx mx pl r = true) : boxOk bx = true := by
  unfold cipB at hc
  simp only [Bool.and_eq_true] at hc
  exact hc.2.1
/-- Deciphering in n rounds undoes enciphering. -/
theorem back_n {m : Int} {bx mx pl : Nat → UInt8} {r n : Int} (hc : (cipB m bx mx pl r && inR n 0 r) = true) (y s : Nat → UInt8) : eqB 16 (deF m bx mx pl y (enF m bx mx pl y s r n) r n) s = true := by
  have hc' := hc
  rw [Bool.and_eq_true] at hc'
  obtain ⟨p, rfl, h0, h1, hf, hd, hp, q, rfl, _, _⟩ := cipB_nat hc'.1
  obtain ⟨k, rfl, _⟩ := inR_up hc'.2
  refine eqB_of' fun i hi => ?_
  unfold deF enF
  rw [hc, cond_true, cond_true]
  exact decF_encF h0 h1 hf hd hp (cip_box hc'.1) y s k (fun _ _ => rfl) hi
theorem back_t {m : Int} {bx mx pl : Nat → UInt8} {r : Int} (hc : cipB m bx mx pl r = true) (y s : Nat → UInt8) : eqB 16 (deT m bx mx pl y (enT m bx mx pl y s r) r) s = true := by
  have hc' := hc
  obtain ⟨p, rfl, h0, h1, hf, hd, hp, q, rfl, _, _⟩ := cipB_nat hc
  refine eqB_of' fun i hi => ?_
  unfold deT enT
  rw [hc, cond_true, cond_true]
  exact decF_encF h0 h1 hf hd hp (cip_box hc') y s q (fun _ _ => rfl) hi
theorem all_is {m : Int} {bx mx pl : Nat → UInt8} {r : Int} (hc : cipB m bx mx pl r = true) (y s : Nat → UInt8) : enF m bx mx pl y s r r = enT m bx mx pl y s r := by
  unfold enF enT
  rw [hc, inR_cip hc]; rfl
theorem hid_no {m : Int} {bx mx pl : Nat → UInt8} {r : Int} (hc : cipB m bx mx pl r = false) (y s : Nat → UInt8) : enT m bx mx pl y s r = zeroF := by unfold enT; rw [hc]; rfl
theorem eTI_ac (m : Int) (bx mx pl y s : Nat → UInt8) (r : Int) (h : List Blk) : AC Try.prog 7 [.agg (Ci m bx mx pl r).toArray, .agg (Bs 16 y).toArray, .agg (Bs 16 s).toArray] h (.tuple #[.agg (Bs 16 (enT m bx mx pl y s r)).toArray, .int .i64 (cipC m bx mx pl r)]) h := encTI_ac m bx mx pl y s r h
theorem eTS_ac (m : Int) (bx mx pl y s : Nat → UInt8) (r : Int) (h : List Blk) : AC Try.prog 8 [.agg (Ci m bx mx pl r).toArray, .agg (Bs 16 y).toArray, .agg (Bs 16 s).toArray] h (.tuple #[.agg (Bs 16 (enT m bx mx pl y s r)).toArray, .int .i64 (cipC m bx mx pl r)]) h := encTS_ac m bx mx pl y s r h
theorem dTI_ac (m : Int) (bx mx pl y s : Nat → UInt8) (r : Int) (h : List Blk) : AC Try.prog 12 [.agg (Ci m bx mx pl r).toArray, .agg (Bs 16 y).toArray, .agg (Bs 16 s).toArray] h (.tuple #[.agg (Bs 16 (deT m bx mx pl y s r)).toArray, .int .i64 (cipC m bx mx pl r)]) h := decTI_ac m bx mx pl y s r h
theorem dTS_ac (m : Int) (bx mx pl y s : Nat → UInt8) (r : Int) (h : List Blk) : AC Try.prog 13 [.agg (Ci m bx mx pl r).toArray, .agg (Bs 16 y).toArray, .agg (Bs 16 s).toArray] h (.tuple #[.agg (Bs 16 (deT m bx mx pl y s r)).toArray, .int .i64 (cipC m bx mx pl r)]) h := decTS_ac m bx mx pl y s r h
theorem eOI_ac (m : Int) (bx mx pl y s : Nat → UInt8) (r n : Int) (h : List Blk) : AC Try.prog 15 [.agg (Ci m bx mx pl r).toArray, .agg (Bs 16 y).toArray, .agg (Bs 16 s).toArray, .int .i64 n] h (.tuple #[.agg (Bs 16 (enF m bx mx pl y s r n)).toArray, .int .i64 (codeN m bx mx pl r n)]) h := encOI_ac m bx mx pl y s r n h
theorem eOS_ac (m : Int) (bx mx pl y s : Nat → UInt8) (r n : Int) (h : List Blk) : AC Try.prog 16 [.agg (Ci m bx mx pl r).toArray, .agg (Bs 16 y).toArray, .agg (Bs 16 s).toArray, .int .i64 n] h (.tuple #[.agg (Bs 16 (enF m bx mx pl y s r n)).toArray, .int .i64 (codeN m bx mx pl r n)]) h := encOS_ac m bx mx pl y s r n h
theorem dOI_ac (m : Int) (bx mx pl y s : Nat → UInt8) (r n : Int) (h : List Blk) : AC Try.prog 18 [.agg (Ci m bx mx pl r).toArray, .agg (Bs 16 y).toArray, .agg (Bs 16 s).toArray, .int .i64 n] h (.tuple #[.agg (Bs 16 (deF m bx mx pl y s r n)).toArray, .int .i64 (codeN m bx mx pl r n)]) h := decOI_ac m bx mx pl y s r n h
theorem dOS_ac (m : Int) (bx mx pl y s : Nat → UInt8) (r n : Int) (h : List Blk) : AC Try.prog 19 [.agg (Ci m bx mx pl r).toArray, .agg (Bs 16 y).toArray, .agg (Bs 16 s).toArray, .int .i64 n] h (.tuple #[.agg (Bs 16 (deF m bx mx pl y s r n)).toArray, .int .i64 (codeN m bx mx pl r n)]) h := decOS_ac m bx mx pl y s r n h
theorem neq_cip (m : Int) (bx mx pl : Nat → UInt8) (r : Int) : abin Try.prog .neq 32 (.agg (Ci m bx mx pl r).toArray) (.agg (Ci m bx mx pl r).toArray) = some (.bool false) :=
  neq_self (by kernel_rfl) (by kernel_rfl) (by kernel_rfl) (by kernel_rfl) (by kernel_rfl) (Ci_oks m bx mx pl r)
attribute [local irreducible] enF deF enT deT codeN cipC cipB hBoxF hMixF hPlF
set_option maxHeartbeats 16000000 in
theorem fnCiphers_ok {h : List Blk} {cv : Value} (c : Cv h cv) : AC Try.prog 3 [cv] h (.bool true) h := by
  have hbg := big_ac c
  obtain ⟨m1, bx1, mx1, pl1, y1, s1, r1, H1, hr1, e1, v1, d1⟩ := drEnc_op c
  obtain ⟨K1, hK1⟩ : ∃ M, M = H1 ++ [⟨Ci m1 bx1 mx1 pl1 r1, true⟩, ⟨Bs 16 y1, true⟩, ⟨Bs 16 s1, true⟩, ⟨Bs 16 (enT m1 bx1 mx1 pl1 y1 s1 r1), true⟩, ⟨Bs 16 (enT m1 bx1 mx1 pl1 y1 s1 r1), true⟩] := ⟨_, rfl⟩
  have k10 : K1[H1.length]? = some ⟨Ci m1 bx1 mx1 pl1 r1, true⟩ := by rw [hK1]; simp
  have k11 : K1[H1.length + 1]? = some ⟨Bs 16 y1, true⟩ := by rw [hK1]; simp
  have k12 : K1[H1.length + 2]? = some ⟨Bs 16 s1, true⟩ := by rw [hK1]; simp
  have k13 : K1[H1.length + 3]? = some ⟨Bs 16 (enT m1 bx1 mx1 pl1 y1 s1 r1), true⟩ := by rw [hK1]; simp
  have EK1 : ∃ A, K1 = h ++ A := by rw [hK1]; exact app_app e1
  have lK1 : K1.length = H1.length + 5 := by rw [hK1]; simp
  have lH1 := app_len e1
  have nK1 := app_len EK1
  obtain ⟨m2, bx2, mx2, pl2, y2, s2, r2, H2, hr2, e2, v2, d2⟩ := drDec_op (cv_app c EK1 : Cv K1 cv)
  obtain ⟨K2, hK2⟩ : ∃ M, M = H2 ++ [⟨Ci m2 bx2 mx2 pl2 r2, true⟩, ⟨Bs 16 y2, true⟩, ⟨Bs 16 s2, true⟩, ⟨Bs 16 (deT m2 bx2 mx2 pl2 y2 s2 r2), true⟩, ⟨Bs 16 (deT m2 bx2 mx2 pl2 y2 s2 r2), true⟩] := ⟨_, rfl⟩
  have k20 : K2[H2.length]? = some ⟨Ci m2 bx2 mx2 pl2 r2, true⟩ := by rw [hK2]; simp
  have k21 : K2[H2.length + 1]? = some ⟨Bs 16 y2, true⟩ := by rw [hK2]; simp
  have k22 : K2[H2.length + 2]? = some ⟨Bs 16 s2, true⟩ := by rw [hK2]; simp
  have k23 : K2[H2.length + 3]? = some ⟨Bs 16 (deT m2 bx2 mx2 pl2 y2 s2 r2), true⟩ := by rw [hK2]; simp
  have EK2 : ∃ A, K2 = h ++ A := by rw [hK2]; exact app_app (app_tr EK1 e2)
  have lK2 : K2.length = H2.length + 5 := by rw [hK2]; simp
  have lH2 := app_len e2
  have nK2 := app_len EK2
  have EE2 : ∃ A, K2 = K1 ++ A := by rw [hK2]; exact app_app e2
  obtain ⟨m3, bx3, mx3, pl3, y3, s3, r3, n3, H3, hr3, e3, v3, d3⟩ := drEsh_op (cv_app c EK2 : Cv K2 cv)
  obtain ⟨K3, hK3⟩ : ∃ M, M = H3 ++ [⟨Ci m3 bx3 mx3 pl3 r3, true⟩, ⟨Bs 16 y3, true⟩, ⟨Bs 16 s3, true⟩, ⟨Bs 16 (enF m3 bx3 mx3 pl3 y3 s3 r3 n3), true⟩, ⟨Bs 16 (enF m3 bx3 mx3 pl3 y3 s3 r3 n3), true⟩] := ⟨_, rfl⟩
  have k30 : K3[H3.length]? = some ⟨Ci m3 bx3 mx3 pl3 r3, true⟩ := by rw [hK3]; simp
  have k31 : K3[H3.length + 1]? = some ⟨Bs 16 y3, true⟩ := by rw [hK3]; simp
  have k32 : K3[H3.length + 2]? = some ⟨Bs 16 s3, true⟩ := by rw [hK3]; simp
  have k33 : K3[H3.length + 3]? = some ⟨Bs 16 (enF m3 bx3 mx3 pl3 y3 s3 r3 n3), true⟩ := by rw [hK3]; simp
  have EK3 : ∃ A, K3 = h ++ A := by rw [hK3]; exact app_app (app_tr EK2 e3)
  have lK3 : K3.length = H3.length + 5 := by rw [hK3]; simp
  have lH3 := app_len e3
  have nK3 := app_len EK3
  have EE3 : ∃ A, K3 = K2 ++ A := by rw [hK3]; exact app_app e3
  obtain ⟨m4, bx4, mx4, pl4, y4, s4, r4, n4, H4, hr4, e4, v4, d4⟩ := drDsh_op (cv_app c EK3 : Cv K3 cv)
  obtain ⟨K4, hK4⟩ : ∃ M, M = H4 ++ [⟨Ci m4 bx4 mx4 pl4 r4, true⟩, ⟨Bs 16 y4, true⟩, ⟨Bs 16 s4, true⟩, ⟨Bs 16 (deF m4 bx4 mx4 pl4 y4 s4 r4 n4), true⟩, ⟨Bs 16 (deF m4 bx4 mx4 pl4 y4 s4 r4 n4), true⟩] := ⟨_, rfl⟩
  have k40 : K4[H4.length]? = some ⟨Ci m4 bx4 mx4 pl4 r4, true⟩ := by rw [hK4]; simp
  have k41 : K4[H4.length + 1]? = some ⟨Bs 16 y4, true⟩ := by rw [hK4]; simp
  have k42 : K4[H4.length + 2]? = some ⟨Bs 16 s4, true⟩ := by rw [hK4]; simp
  have k43 : K4[H4.length + 3]? = some ⟨Bs 16 (deF m4 bx4 mx4 pl4 y4 s4 r4 n4), true⟩ := by rw [hK4]; simp
  have EK4 : ∃ A, K4 = h ++ A := by rw [hK4]; exact app_app (app_tr EK3 e4)
  have lK4 : K4.length = H4.length + 5 := by rw [hK4]; simp
  have lH4 := app_len e4
  have nK4 := app_len EK4
  have EE4 : ∃ A, K4 = K3 ++ A := by rw [hK4]; exact app_app e4
  obtain ⟨n5, H5, hn5, e5, v5, d5⟩ := drHou_op (cv_app c EK4 : Cv K4 cv)
  have E5 := app_tr EK4 e5
  have n5l := app_len E5
  have lH5 := app_len e5
  have j30 : K4[H3.length]? = some ⟨Ci m3 bx3 mx3 pl3 r3, true⟩ := by obtain ⟨A, e⟩ := EE4; rw [e]; exact look_old k30 A
  have j31 : K4[H3.length + 1]? = some ⟨Bs 16 y3, true⟩ := by obtain ⟨A, e⟩ := EE4; rw [e]; exact look_old k31 A
  have j32 : K4[H3.length + 2]? = some ⟨Bs 16 s3, true⟩ := by obtain ⟨A, e⟩ := EE4; rw [e]; exact look_old k32 A
  have j33 : K4[H3.length + 3]? = some ⟨Bs 16 (enF m3 bx3 mx3 pl3 y3 s3 r3 n3), true⟩ := by obtain ⟨A, e⟩ := EE4; rw [e]; exact look_old k33 A
  have E15 : ∃ A, H5 = K1 ++ A := app_tr (app_tr (app_tr EE2 EE3) EE4) e5
  obtain ⟨K5, hK5⟩ : ∃ M, M = H5 ++ [⟨Ci (cond (inR n5 1 20) 285 0) (cond (inR n5 1 20) hBoxF zF) (cond (inR n5 1 20) hMixF zF) (cond (inR n5 1 20) hPlF zF) (cond (inR n5 1 20) n5 0), true⟩, ⟨Ci (cond (inR n5 1 20) 285 0) (cond (inR n5 1 20) hBoxF zF) (cond (inR n5 1 20) hMixF zF) (cond (inR n5 1 20) hPlF zF) (cond (inR n5 1 20) n5 0), true⟩] := ⟨_, rfl⟩
  have k50 : K5[H5.length]? = some ⟨Ci (cond (inR n5 1 20) 285 0) (cond (inR n5 1 20) hBoxF zF) (cond (inR n5 1 20) hMixF zF) (cond (inR n5 1 20) hPlF zF) (cond (inR n5 1 20) n5 0), true⟩ := by rw [hK5]; simp
  have k51 : K5[H5.length + 1]? = some ⟨Ci (cond (inR n5 1 20) 285 0) (cond (inR n5 1 20) hBoxF zF) (cond (inR n5 1 20) hMixF zF) (cond (inR n5 1 20) hPlF zF) (cond (inR n5 1 20) n5 0), true⟩ := by rw [hK5]; simp
  have E15K : ∃ A, K5 = K1 ++ A := by rw [hK5]; exact app_app E15
  have EK5 : ∃ A, K5 = h ++ A := by rw [hK5]; exact app_app E5
  have nK5 := app_len EK5
  have i0 : K5[H1.length]? = some ⟨Ci m1 bx1 mx1 pl1 r1, true⟩ := by obtain ⟨A, e⟩ := E15K; rw [e]; exact look_old k10 A
  have i1 : K5[H1.length + 1]? = some ⟨Bs 16 y1, true⟩ := by obtain ⟨A, e⟩ := E15K; rw [e]; exact look_old k11 A
  have i2 : K5[H1.length + 2]? = some ⟨Bs 16 s1, true⟩ := by obtain ⟨A, e⟩ := E15K; rw [e]; exact look_old k12 A
  have i3 : K5[H1.length + 3]? = some ⟨Bs 16 (enT m1 bx1 mx1 pl1 y1 s1 r1), true⟩ := by obtain ⟨A, e⟩ := E15K; rw [e]; exact look_old k13 A
  have ov4 : OldV K4.length cv := c.old nK4
  (refine AC_begin (fun _ _ => Try.call3 _ _) Try.func3 rfl Try.ntmps3 Try.results3 (fun hwf => ?_); simp only [List.length_cons, List.length_nil, Nat.reduceAdd, Nat.reduceSub, List.replicate, List.cons_append, List.nil_append])
  (repeat (first | ((first | (refine And.intro ?_ ?_; focus exact PLA) | ((first | with_reducible apply callB_i | with_reducible apply callK_intro | with_reducible apply callQ_i); (focus (first | assumption | ((first | with_reducible apply hbg | with_reducible apply d1 | with_reducible apply eTI_ac | with_reducible apply eTS_ac | with_reducible apply cipI_ac | with_reducible apply isCipS_ac) <;> (first | assumption | rfl | (simp (disch := omega) only [go_sem]; first | done | rfl) | omega | decide | (simp; done))))); (try exact WP_au)) | refine WA_seq (WA_region (id := 0) ?_) | refine WA_region (id := 0) ?_ | refine WA_seq (WA_region (id := 1) ?_) | refine WA_region (id := 1) ?_ | refine WA_seq (WA_region (id := 3) ?_) | refine WA_region (id := 3) ?_ | refine WA_seq (WA_region (id := 4) ?_) | refine WA_region (id := 4) ?_ | refine WA_seq (WA_region (id := 5) ?_) | refine WA_region (id := 5) ?_ | refine WA_exit ?_); try simp (maxSteps := 1000000) (disch := first | omega | rfl | decide | (simp only [List.length_cons, List.length_nil, List.length_append, Bs_length, Is_length, Vs_length, Bl_length, Il_length] <;> omega)) only [go_sem, Nat.reduceAdd, Int.reduceAdd, Int.reduceSub, Int.reduceMul, Bool.not_true, Bool.not_false, bne_self_eq_false, beq_self_eq_true, eqB_self, Ci_stC, Ci_splice_all, yieldA_at 2 183, yieldA_at 2 240, yieldA_at 3 69, yieldA_at 3 104, yieldA_at 3 135, yieldA_at 3 166, yieldA_at 3 203, yieldA_at 6 244, yieldA_at 8 74, yieldA_at 8 208, yieldA_at 11 211, yieldA_at 11 249]) | (refine WA_seq (WA_draw (id := 6) mixedOk (by kernel_rfl) ?_); simp (maxSteps := 1000000) (disch := first | omega | rfl | decide | (simp only [List.length_cons, List.length_nil, List.length_append, Bs_length, Is_length, Vs_length, Bl_length, Il_length] <;> omega)) only [go_sem, Nat.reduceAdd, Int.reduceAdd, Int.reduceSub, Int.reduceMul, Bool.not_true, Bool.not_false, bne_self_eq_false, beq_self_eq_true, eqB_self, Ci_stC, Ci_splice_all, yieldA_at 2 183, yieldA_at 2 240, yieldA_at 3 69, yieldA_at 3 104, yieldA_at 3 135, yieldA_at 3 166, yieldA_at 3 203, yieldA_at 6 244, yieldA_at 8 74, yieldA_at 8 208, yieldA_at 11 211, yieldA_at 11 249]) | (refine WA_draw (id := 6) mixedOk (by kernel_rfl) ?_; simp (maxSteps := 1000000) (disch := first | omega | rfl | decide | (simp only [List.length_cons, List.length_nil, List.length_append, Bs_length, Is_length, Vs_length, Bl_length, Il_length] <;> omega)) only [go_sem, Nat.reduceAdd, Int.reduceAdd, Int.reduceSub, Int.reduceMul, Bool.not_true, Bool.not_false, bne_self_eq_false, beq_self_eq_true, eqB_self, Ci_stC, Ci_splice_all, yieldA_at 2 183, yieldA_at 2 240, yieldA_at 3 69, yieldA_at 3 104, yieldA_at 3 135, yieldA_at 3 166, yieldA_at 3 203, yieldA_at 6 244, yieldA_at 8 74, yieldA_at 8 208, yieldA_at 11 211, yieldA_at 11 249]) | refine WA_seq ?_ | refine WA_block ?_ | (refine WA_skip ?_; try simp only [go_sem]) | (refine WA_ret ?_; try simp only [go_sem]) | refine WA_ct rfl ?_ | refine WA_cf rfl ?_))
  rw [← hK1]
  (repeat (first | ((first | (refine And.intro ?_ ?_; focus exact PLA) | ((first | with_reducible apply callB_i | with_reducible apply callK_intro | with_reducible apply callQ_i); (focus (first | assumption | ((first | with_reducible apply d2 | with_reducible apply dTI_ac | with_reducible apply dTS_ac) <;> (first | assumption | rfl | (simp (disch := omega) only [go_sem]; first | done | rfl) | omega | decide | (simp; done))))); (try exact WP_au)) | refine WA_seq (WA_region (id := 8) ?_) | refine WA_region (id := 8) ?_ | refine WA_seq (WA_region (id := 9) ?_) | refine WA_region (id := 9) ?_ | refine WA_seq (WA_region (id := 10) ?_) | refine WA_region (id := 10) ?_ | refine WA_seq (WA_region (id := 11) ?_) | refine WA_region (id := 11) ?_ | refine WA_exit ?_); try simp (maxSteps := 1000000) (disch := first | omega | rfl | decide | (simp only [List.length_cons, List.length_nil, List.length_append, Bs_length, Is_length, Vs_length, Bl_length, Il_length] <;> omega)) only [go_sem, Nat.reduceAdd, Int.reduceAdd, Int.reduceSub, Int.reduceMul, Bool.not_true, Bool.not_false, bne_self_eq_false, eqB_self, Ci_stC, Ci_splice_all, yieldA_at 2 183, yieldA_at 2 240, yieldA_at 3 69, yieldA_at 3 104, yieldA_at 3 135, yieldA_at 3 166, yieldA_at 3 203, yieldA_at 6 244, yieldA_at 8 74, yieldA_at 8 208, yieldA_at 11 211, yieldA_at 11 249]) | refine WA_seq ?_ | refine WA_block ?_ | (refine WA_skip ?_; try simp only [go_sem]) | (refine WA_ret ?_; try simp only [go_sem]) | refine WA_ct rfl ?_ | refine WA_cf rfl ?_))
  rw [← hK2]
  (repeat (first | ((first | (refine And.intro ?_ ?_; focus exact PLA) | ((first | with_reducible apply callB_i | with_reducible apply callK_intro | with_reducible apply callQ_i); (focus (first | assumption | ((first | with_reducible apply d3 | with_reducible apply eOI_ac | with_reducible apply eOS_ac) <;> (first | assumption | rfl | (simp (disch := omega) only [go_sem]; first | done | rfl) | omega | decide | (simp; done))))); (try exact WP_au)) | refine WA_seq (WA_region (id := 13) ?_) | refine WA_region (id := 13) ?_ | refine WA_seq (WA_region (id := 14) ?_) | refine WA_region (id := 14) ?_ | refine WA_seq (WA_region (id := 15) ?_) | refine WA_region (id := 15) ?_ | refine WA_seq (WA_region (id := 16) ?_) | refine WA_region (id := 16) ?_ | refine WA_exit ?_); try simp (maxSteps := 1000000) (disch := first | omega | rfl | decide | (simp only [List.length_cons, List.length_nil, List.length_append, Bs_length, Is_length, Vs_length, Bl_length, Il_length] <;> omega)) only [go_sem, Nat.reduceAdd, Int.reduceAdd, Int.reduceSub, Int.reduceMul, Bool.not_true, Bool.not_false, bne_self_eq_false, eqB_self, Ci_stC, Ci_splice_all, yieldA_at 2 183, yieldA_at 2 240, yieldA_at 3 69, yieldA_at 3 104, yieldA_at 3 135, yieldA_at 3 166, yieldA_at 3 203, yieldA_at 6 244, yieldA_at 8 74, yieldA_at 8 208, yieldA_at 11 211, yieldA_at 11 249]) | refine WA_seq ?_ | refine WA_block ?_ | (refine WA_skip ?_; try simp only [go_sem]) | (refine WA_ret ?_; try simp only [go_sem]) | refine WA_ct rfl ?_ | refine WA_cf rfl ?_))
  rw [← hK3]
  (repeat (first | ((first | (refine And.intro ?_ ?_; focus exact PLA) | ((first | with_reducible apply callB_i | with_reducible apply callK_intro | with_reducible apply callQ_i); (focus (first | assumption | ((first | with_reducible apply d4 | with_reducible apply dOI_ac | with_reducible apply dOS_ac) <;> (first | assumption | rfl | (simp (disch := omega) only [go_sem]; first | done | rfl) | omega | decide | (simp; done))))); (try exact WP_au)) | refine WA_seq (WA_region (id := 18) ?_) | refine WA_region (id := 18) ?_ | refine WA_seq (WA_region (id := 19) ?_) | refine WA_region (id := 19) ?_ | refine WA_seq (WA_region (id := 20) ?_) | refine WA_region (id := 20) ?_ | refine WA_seq (WA_region (id := 21) ?_) | refine WA_region (id := 21) ?_ | refine WA_seq (WA_region (id := 23) ?_) | refine WA_region (id := 23) ?_ | refine WA_exit ?_); try simp (maxSteps := 1000000) (disch := first | omega | rfl | decide | (simp only [List.length_cons, List.length_nil, List.length_append, Bs_length, Is_length, Vs_length, Bl_length, Il_length] <;> omega)) only [go_sem, Nat.reduceAdd, Int.reduceAdd, Int.reduceSub, Int.reduceMul, Bool.not_true, Bool.not_false, bne_self_eq_false, eqB_self, Ci_stC, Ci_splice_all, codeN_is, yieldA_at 2 183, yieldA_at 2 240, yieldA_at 3 69, yieldA_at 3 104, yieldA_at 3 135, yieldA_at 3 166, yieldA_at 3 203, yieldA_at 6 244, yieldA_at 8 74, yieldA_at 8 208, yieldA_at 11 211, yieldA_at 11 249]) | refine WA_seq ?_ | refine WA_block ?_ | (refine WA_skip ?_; try simp only [go_sem]) | (refine WA_ret ?_; try simp only [go_sem]) | refine WA_ct rfl ?_ | refine WA_cf rfl ?_))
  rw [← hK4]
  refine WA_wf fun hwf4 => ?_
  refine WA_midH [(33, J), (34, J), (171, J), (172, J), (173, J), (174, J), (175, J), (176, J), (177, J), (178, J), (179, J), (180, J), (181, J), (182, J), (183, J), (184, J), (185, J), (186, J), (187, J)] ?_ ?_ <;> (try simp only [patT_cons, patT_nil, patL_cons, patL_nil, list_set_zero, list_set_succ, blk_set_zero, blk_set_succ])
  · refine WA_cond rfl (fun hb => ?_) (fun hb => ?_)
    · have hbk := back_n hb y3 s3
      have hz : codeN m3 bx3 mx3 pl3 r3 n3 = 0 := by
        have := codeN_is m3 bx3 mx3 pl3 r3 n3
        rw [hb] at this
        simpa using this
      (repeat (first | ((first | (refine And.intro ?_ ?_; focus exact PLA) | ((first | with_reducible apply callB_i | with_reducible apply callK_intro | with_reducible apply callQ_i); (focus (first | assumption | (with_reducible apply dOI_ac <;> (first | assumption | rfl | (simp (disch := omega) only [go_sem]; first | done | rfl) | omega | decide | (simp; done))))); (try exact WP_au)) | refine WA_seq (WA_region ?_) | refine WA_region ?_ | refine WA_exit ?_); try simp (maxSteps := 1000000) (disch := first | omega | rfl | decide | (simp only [List.length_cons, List.length_nil, List.length_append, Bs_length, Is_length, Vs_length, Bl_length, Il_length] <;> omega)) only [go_sem, Nat.reduceAdd, Int.reduceAdd, Int.reduceSub, Int.reduceMul, Bool.not_true, Bool.not_false, j30, j31, j32, j33, look_old j30, look_old j31, look_old j32, look_old j33, hz, hbk, bne_self_eq_false, Bool.not_true, yieldA_at 2 183, yieldA_at 2 240, yieldA_at 3 69, yieldA_at 3 104, yieldA_at 3 135, yieldA_at 3 166, yieldA_at 3 203, yieldA_at 6 244, yieldA_at 8 74, yieldA_at 8 208, yieldA_at 11 211, yieldA_at 11 249]) | refine WA_seq ?_ | refine WA_block ?_ | (refine WA_skip ?_; try simp only [go_sem]) | (refine WA_ret ?_; try simp only [go_sem]) | refine WA_ct rfl ?_ | refine WA_cf rfl ?_))
      (refine Drop_gc0 (by first | assumption | exact Nat.le_refl _ | first | assumption | omega | (simp only [List.length_append, List.length_cons, List.length_nil, List.length_replicate]; omega)) (by assumption) ?_; (focus (repeat (first | exact JR_nil | refine JR_J ?_ | (refine JR_plain ?_ ?_; (focus first | rfl | (refine plain_agg ?_; simp only [go_sem, List.all_append, List.all_cons, List.all_nil, Bool.and_self]; done))) | ((first | refine JR_pt ?_ ?_ ?_ | refine JR_sl ?_ ?_ ?_); (focus first | (rw [rhoF_new0]; rfl) | (rw [rhoF_new]; rfl) | (rw [rhoF_old]; first | assumption | omega)); (focus first | assumption | omega | (simp only [List.length_append, List.length_cons, List.length_nil, List.length_replicate]; omega))) | (refine JR_plain' ?_ ?_ ?_; (focus first | rfl | (refine plain_agg ?_; simp only [go_sem, List.all_append, List.all_cons, List.all_nil, Bool.and_self]; done)); (focus (first | rfl | (simp only [Int.natCast_add, Int.natCast_one, Int.natCast_zero, Int.cast_ofNat_Int, Nat.add_zero]; done) | (simp only [Int.natCast_add, Int.natCast_one, Int.natCast_zero, Int.cast_ofNat_Int, Nat.add_zero]; rfl)))) | (refine JR_sl' ?_ ?_ ?_ ?_; (focus first | (rw [rhoF_new0]; rfl) | (rw [rhoF_new]; rfl) | (rw [rhoF_old]; first | assumption | omega)); (focus first | assumption | omega | (simp only [List.length_append, List.length_cons, List.length_nil, List.length_replicate]; omega)); (focus first | rfl | omega | (first | rfl | (simp only [Int.natCast_add, Int.natCast_one, Int.natCast_zero, Int.cast_ofNat_Int, Nat.add_zero]; done) | (simp only [Int.natCast_add, Int.natCast_one, Int.natCast_zero, Int.cast_ofNat_Int, Nat.add_zero]; rfl)))) | (refine JR_old ?_ (Nat.le_refl _) ?_; (focus assumption)))) ))
    · (repeat (first | ((first | (refine And.intro ?_ ?_; focus exact PLA) | refine WA_seq (WA_region ?_) | refine WA_region ?_ | refine WA_exit ?_); try simp (maxSteps := 1000000) (disch := first | omega | rfl | decide | (simp only [List.length_cons, List.length_nil, List.length_append, Bs_length, Is_length, Vs_length, Bl_length, Il_length] <;> omega)) only [go_sem, Nat.reduceAdd, Int.reduceAdd, Int.reduceSub, Int.reduceMul, Bool.not_true, Bool.not_false, yieldA_at 2 183, yieldA_at 2 240, yieldA_at 3 69, yieldA_at 3 104, yieldA_at 3 135, yieldA_at 3 166, yieldA_at 3 203, yieldA_at 6 244, yieldA_at 8 74, yieldA_at 8 208, yieldA_at 11 211, yieldA_at 11 249]) | refine WA_seq ?_ | refine WA_block ?_ | (refine WA_skip ?_; try simp only [go_sem]) | (refine WA_ret ?_; try simp only [go_sem]) | refine WA_ct rfl ?_ | refine WA_cf rfl ?_))
      (refine Drop_slots (by first | assumption | exact Nat.le_refl _) ?_; focus ((try simp only [JL_same, JL_J, JL_nil, Int.reduceAdd, Nat.sub_sub, Int.natCast_add, Int.natCast_one, Int.natCast_zero, Int.cast_ofNat_Int, Nat.add_zero, Bool.false_eq_true, if_false, if_true]); (try exact JL_refl _)))
  (repeat (first | ((first | (refine And.intro ?_ ?_; focus exact PLA) | ((first | with_reducible apply callB_i | with_reducible apply callK_intro | with_reducible apply callQ_i); (focus (first | assumption | ((first | with_reducible apply d5 | with_reducible apply houseCI_ac | with_reducible apply houseCS_ac) <;> (first | assumption | rfl | (simp (disch := omega) only [go_sem]; first | done | rfl) | omega | decide | (simp; done))))); (try exact WP_au)) | refine WA_seq (WA_region (id := 27) ?_) | refine WA_region (id := 27) ?_ | refine WA_seq (WA_region (id := 28) ?_) | refine WA_region (id := 28) ?_ | refine WA_seq (WA_region (id := 29) ?_) | refine WA_region (id := 29) ?_ | refine WA_exit ?_); try simp (maxSteps := 1000000) (disch := first | omega | rfl | decide | (simp only [List.length_cons, List.length_nil, List.length_append, Bs_length, Is_length, Vs_length, Bl_length, Il_length] <;> omega)) only [go_sem, Nat.reduceAdd, Int.reduceAdd, Int.reduceSub, Int.reduceMul, Bool.not_true, Bool.not_false, bne_self_eq_false, eqB_self, Ci_stC, Ci_splice_all, yieldA_at 2 183, yieldA_at 2 240, yieldA_at 3 69, yieldA_at 3 104, yieldA_at 3 135, yieldA_at 3 166, yieldA_at 3 203, yieldA_at 6 244, yieldA_at 8 74, yieldA_at 8 208, yieldA_at 11 211, yieldA_at 11 249]) | refine WA_seq ?_ | refine WA_block ?_ | (refine WA_skip ?_; try simp only [go_sem]) | (refine WA_ret ?_; try simp only [go_sem]) | refine WA_ct rfl ?_ | refine WA_cf rfl ?_))
  rw [← hK5]
  refine WA_mid2 [(200, J), (201, J), (202, J), (203, J), (204, J), (205, J), (206, J), (207, J), (208, J), (209, J), (210, J), (211, J), (212, J), (213, J), (214, J), (215, J), (216, J)] (K5) ?_ ?_ <;> (try simp only [patT_cons, patT_nil, patL_cons, patL_nil, list_set_zero, list_set_succ, blk_set_zero, blk_set_succ])
  · cases hq : inR n5 1 20
    · rw [hq] at k50 k51
      (repeat (first | ((first | (refine And.intro ?_ ?_; focus exact PLA) | refine WA_seq (WA_region ?_) | refine WA_region ?_ | refine WA_exit ?_); try simp (maxSteps := 1000000) (disch := first | omega | rfl | decide | (simp only [List.length_cons, List.length_nil, List.length_append, Bs_length, Is_length, Vs_length, Bl_length, Il_length] <;> omega)) only [go_sem, Nat.reduceAdd, Int.reduceAdd, Int.reduceSub, Int.reduceMul, Bool.not_true, Bool.not_false, k50, k51, hq, neq_cip, cond_false, show ((2 : Int) == 0) = false from rfl, bne_self_eq_false, eqB_self, beq_self_eq_true, Bool.not_true, yieldA_at 2 183, yieldA_at 2 240, yieldA_at 3 69, yieldA_at 3 104, yieldA_at 3 135, yieldA_at 3 166, yieldA_at 3 203, yieldA_at 6 244, yieldA_at 8 74, yieldA_at 8 208, yieldA_at 11 211, yieldA_at 11 249]) | refine WA_seq ?_ | refine WA_block ?_ | (refine WA_skip ?_; try simp only [go_sem]) | (refine WA_ret ?_; try simp only [go_sem]) | refine WA_ct rfl ?_ | refine WA_cf rfl ?_))
      (refine Drop_slots (by first | assumption | exact Nat.le_refl _) ?_; focus ((try simp only [JL_same, JL_J, JL_nil, Int.reduceAdd, Nat.sub_sub, Int.natCast_add, Int.natCast_one, Int.natCast_zero, Int.cast_ofNat_Int, Nat.add_zero, Bool.false_eq_true, if_false, if_true]); (try exact JL_refl _)))
    · rw [hq] at k50 k51
      (repeat (first | ((first | (refine And.intro ?_ ?_; focus exact PLA) | ((first | with_reducible apply callB_i | with_reducible apply callK_intro | with_reducible apply callQ_i); (focus (first | assumption | (with_reducible apply cipI_ac <;> (first | assumption | rfl | (simp (disch := omega) only [go_sem]; first | done | rfl) | omega | decide | (simp; done))))); (try exact WP_au)) | refine WA_seq (WA_region ?_) | refine WA_region ?_ | refine WA_exit ?_); try simp (maxSteps := 1000000) (disch := first | omega | rfl | decide | (simp only [List.length_cons, List.length_nil, List.length_append, Bs_length, Is_length, Vs_length, Bl_length, Il_length] <;> omega)) only [go_sem, Nat.reduceAdd, Int.reduceAdd, Int.reduceSub, Int.reduceMul, Bool.not_true, Bool.not_false, k50, k51, hq, neq_cip, cond_true, house_ok, bne_self_eq_false, eqB_self, beq_self_eq_true, Bool.not_true, yieldA_at 2 183, yieldA_at 2 240, yieldA_at 3 69, yieldA_at 3 104, yieldA_at 3 135, yieldA_at 3 166, yieldA_at 3 203, yieldA_at 6 244, yieldA_at 8 74, yieldA_at 8 208, yieldA_at 11 211, yieldA_at 11 249]) | refine WA_seq ?_ | refine WA_block ?_ | (refine WA_skip ?_; try simp only [go_sem]) | (refine WA_ret ?_; try simp only [go_sem]) | refine WA_ct rfl ?_ | refine WA_cf rfl ?_))
      (refine Drop_slots (by first | assumption | exact Nat.le_refl _) ?_; focus ((try simp only [JL_same, JL_J, JL_nil, Int.reduceAdd, Nat.sub_sub, Int.natCast_add, Int.natCast_one, Int.natCast_zero, Int.cast_ofNat_Int, Nat.add_zero, Bool.false_eq_true, if_false, if_true]); (try exact JL_refl _)))
  (repeat (first | ((first | (refine And.intro ?_ ?_; focus exact PLA) | refine WA_seq (WA_region (id := 32) ?_) | refine WA_region (id := 32) ?_ | refine WA_exit ?_); try simp (maxSteps := 1000000) (disch := first | omega | rfl | decide | (simp only [List.length_cons, List.length_nil, List.length_append, Bs_length, Is_length, Vs_length, Bl_length, Il_length] <;> omega)) only [go_sem, Nat.reduceAdd, Int.reduceAdd, Int.reduceSub, Int.reduceMul, Bool.not_true, Bool.not_false, cipC_isn, yieldA_at 2 183, yieldA_at 2 240, yieldA_at 3 69, yieldA_at 3 104, yieldA_at 3 135, yieldA_at 3 166, yieldA_at 3 203, yieldA_at 6 244, yieldA_at 8 74, yieldA_at 8 208, yieldA_at 11 211, yieldA_at 11 249]) | refine WA_seq ?_ | refine WA_block ?_ | (refine WA_skip ?_; try simp only [go_sem]) | (refine WA_ret ?_; try simp only [go_sem]) | refine WA_ct rfl ?_ | refine WA_cf rfl ?_))
  refine WA_cond rfl (fun hb => ?_) (fun hb => ?_)
  · have hb' : cipB m1 bx1 mx1 pl1 r1 = false := by simpa using hb
    rw [hid_no hb' y1 s1] at i3
    (repeat (first | ((first | (refine And.intro ?_ ?_; focus exact PLA) | refine WA_seq (WA_region ?_) | refine WA_region ?_ | refine WA_exit ?_); try simp (maxSteps := 1000000) (disch := first | omega | rfl | decide | (simp only [List.length_cons, List.length_nil, List.length_append, Bs_length, Is_length, Vs_length, Bl_length, Il_length] <;> omega)) only [go_sem, Nat.reduceAdd, Int.reduceAdd, Int.reduceSub, Int.reduceMul, Bool.not_true, Bool.not_false, i3, eqB_self, zeroF, yieldA_at 2 183, yieldA_at 2 240, yieldA_at 3 69, yieldA_at 3 104, yieldA_at 3 135, yieldA_at 3 166, yieldA_at 3 203, yieldA_at 6 244, yieldA_at 8 74, yieldA_at 8 208, yieldA_at 11 211, yieldA_at 11 249]) | refine WA_seq ?_ | refine WA_block ?_ | (refine WA_skip ?_; try simp only [go_sem]) | (refine WA_ret ?_; try simp only [go_sem]) | refine WA_ct rfl ?_ | refine WA_cf rfl ?_))
    obtain ⟨A, hA⟩ := EK5
    rw [hA]
    ((first | refine ret_nA ?_ | refine ret_sA ?_ | refine ret_fA ?_); simp (maxSteps := 1000000) (disch := first | omega | rfl | decide | (simp only [List.length_cons, List.length_nil, List.length_append, Bs_length, Is_length, Vs_length, Bl_length, Il_length] <;> omega)) only [go_sem, Nat.reduceAdd, Int.reduceAdd, Int.reduceSub, Int.reduceMul, Bool.not_true, Bool.not_false]; try rfl)
  · have hb' : cipB m1 bx1 mx1 pl1 r1 = true := by simpa using hb
    have hbt := back_t hb' y1 s1
    have hal := all_is hb' y1 s1
    have hir := inR_cip hb'
    (repeat (first | ((first | (refine And.intro ?_ ?_; focus exact PLA) | ((first | with_reducible apply callB_i | with_reducible apply callK_intro | with_reducible apply callQ_i); (focus (first | assumption | ((first | with_reducible apply dTI_ac | with_reducible apply eOI_ac) <;> (first | assumption | rfl | (simp (disch := omega) only [go_sem]; first | done | rfl) | omega | decide | (simp; done))))); (try exact WP_au)) | refine WA_seq (WA_region ?_) | refine WA_region ?_ | refine WA_exit ?_); try simp (maxSteps := 1000000) (disch := first | omega | rfl | decide | (simp only [List.length_cons, List.length_nil, List.length_append, Bs_length, Is_length, Vs_length, Bl_length, Il_length] <;> omega)) only [go_sem, Nat.reduceAdd, Int.reduceAdd, Int.reduceSub, Int.reduceMul, Bool.not_true, Bool.not_false, i0, i1, i2, i3, look_old i0, look_old i1, look_old i2, look_old i3, hbt, hal, hb', hir, cipC_is, codeN_is, Bool.and_self, eqB_self, yieldA_at 2 183, yieldA_at 2 240, yieldA_at 3 69, yieldA_at 3 104, yieldA_at 3 135, yieldA_at 3 166, yieldA_at 3 203, yieldA_at 6 244, yieldA_at 8 74, yieldA_at 8 208, yieldA_at 11 211, yieldA_at 11 249]) | refine WA_seq ?_ | refine WA_block ?_ | (refine WA_skip ?_; try simp only [go_sem]) | (refine WA_ret ?_; try simp only [go_sem]) | refine WA_ct rfl ?_ | refine WA_cf rfl ?_))
    obtain ⟨A, hA⟩ := EK5
    rw [hA, List.append_assoc]
    ((first | refine ret_nA ?_ | refine ret_sA ?_ | refine ret_fA ?_); simp (maxSteps := 1000000) (disch := first | omega | rfl | decide | (simp only [List.length_cons, List.length_nil, List.length_append, Bs_length, Is_length, Vs_length, Bl_length, Il_length] <;> omega)) only [go_sem, Nat.reduceAdd, Int.reduceAdd, Int.reduceSub, Int.reduceMul, Bool.not_true, Bool.not_false]; try rfl)

end Go.Proofs.Ytcfpninklbnifaa
namespace Go.Proofs.Ytcfpninklbnifaa
set_option linter.unusedSimpArgs false
set_option linter.unusedVariables false
set_option maxRecDepth 20000
set_option maxHeartbeats 1000000
open Go.Abs

theorem fnCiphers_big {b n : Nat} (hn : 4096 < n) (hn2 : n ≤ 9223372036854775807) (h : List Blk) : AC Try.prog 3 [sl b 0 n 1] h (.bool true) h := by
  have hbg := big_long (b := b) hn hn2
  (refine AC_begin (fun _ _ => Try.call3 _ _) Try.func3 rfl Try.ntmps3 Try.results3 (fun hwf => ?_); simp only [List.length_cons, List.length_nil, Nat.reduceAdd, Nat.reduceSub, List.replicate, List.cons_append, List.nil_append])
  (repeat (first | ((first | (refine And.intro ?_ ?_; focus exact PLA) | ((first | with_reducible apply callB_i | with_reducible apply callK_intro | with_reducible apply callQ_i); (focus (first | assumption | (with_reducible apply hbg <;> (first | assumption | rfl | (simp (disch := omega) only [go_sem]; first | done | rfl) | omega | decide | (simp; done))))); (try exact WP_au)) | refine WA_seq (WA_region ?_) | refine WA_region ?_ | refine WA_exit ?_); try simp (maxSteps := 1000000) (disch := first | omega | rfl | decide | (simp only [List.length_cons, List.length_nil, List.length_append, Bs_length, Is_length, Vs_length, Bl_length, Il_length] <;> omega)) only [go_sem, Nat.reduceAdd, Int.reduceAdd, Int.reduceSub, Int.reduceMul, Bool.not_true, Bool.not_false, yieldA_at 2 183, yieldA_at 2 240, yieldA_at 3 69, yieldA_at 3 104, yieldA_at 3 135, yieldA_at 3 166, yieldA_at 3 203, yieldA_at 6 244, yieldA_at 8 74, yieldA_at 8 208, yieldA_at 11 211, yieldA_at 11 249]) | refine WA_seq ?_ | refine WA_block ?_ | (refine WA_skip ?_; try simp only [go_sem]) | (refine WA_ret ?_; try simp only [go_sem]) | refine WA_ct rfl ?_ | refine WA_cf rfl ?_))
  ((first | refine ret_nA ?_ | refine ret_sA ?_ | refine ret_fA ?_); simp (maxSteps := 1000000) (disch := first | omega | rfl | decide | (simp only [List.length_cons, List.length_nil, List.length_append, Bs_length, Is_length, Vs_length, Bl_length, Il_length] <;> omega)) only [go_sem, Nat.reduceAdd, Int.reduceAdd, Int.reduceSub, Int.reduceMul, Bool.not_true, Bool.not_false]; try rfl)

theorem fnCiphers_args (us : List Value) (bl : List Blk) (h : ArgsU Try.prog 0 [22] us bl) : AC Try.prog 3 us bl (.bool true) bl := by
  rcases h.list (m := 1) (e := 5) (by kernel_rfl) (by kernel_rfl) with ⟨us1, rfl, h1⟩ | ⟨n1, f1, us1, bl1, rfl, rfl, hn1, h1⟩
  · obtain ⟨rfl, rfl⟩ := h1.done
    exact fnCiphers_ok .nil
  · obtain ⟨rfl, rfl⟩ := h1.done
    rw [Nat.mul_one]
    rcases Nat.lt_or_ge 4096 n1 with hl | hl
    · exact fnCiphers_big hl (by have : maxLen = 9223372036854775807 := rfl; omega) _
    · exact fnCiphers_ok (Cv.sl (h := [⟨Bs n1 f1, false⟩]) (bc := 0) (f := f1) (rc := false) rfl hl)

set_option maxRecDepth 100000 in
set_option maxHeartbeats 1000000 in
theorem fnCiphers_lifted (os : Os) (started : os.Started) (H : Type) (enc : TypeId × Value → H) :
    ReturnsInHanded {} Try.checked os 3 .any (Rows.fnCiphersSpec.pre6 enc Try.prog Try.f3 Rows.fnCiphersRow.domain false) (Rows.fnCiphersSpec.post enc Try.prog Try.f3 false true false false) :=
  frame_law (C := Try.checked) (by kernel_rfl) started (by kernel_rfl) Try.func3 (by kernel_rfl)
    (ChangeSpec.witness6 (enc := enc) (C := Try.checked) false ⟨#[], #[.slice none 0 0], []⟩ 8 (by kernel_rfl) (by kernel_rfl) (by kernel_rfl) (by kernel_rfl))
    rfl (fun ds h => by rw [Try.params3] at h; match ds, h with | [_], _ => rfl) (by rfl) Try.underlying4 (by rw [Try.params3]; kernel_rfl)
    (by rw [Try.params3]; exact fnCiphers_args)

/-- ████ THE STATEMENT ████ -/
theorem fnCiphers : Rows.FnCiphersSaid :=
  OpenClaim.holds_of_wide 3 Try.f3 rfl rfl rfl rfl rfl rfl rfl ⟨rfl, rfl, rfl, rfl, rfl⟩ rfl rfl rfl rfl rfl (by kernel_rfl) Try.func3 (by kernel_rfl)
    (of_decide_eq_true (by kernel_rfl)) (by unfold Func.isWrapper; first | (rw [if_pos (by decide +kernel)]; kernel_rfl) | (rw [if_neg (by decide +kernel)]; exact ⟨rfl, rfl⟩))
    (fun os started H enc _ => fnCiphers_lifted os started H enc)
#print axioms fnCiphers
end Go.Proofs.Ytcfpninklbnifaa
