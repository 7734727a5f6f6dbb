/- The parts of networks and of ciphers. -/
import Derived.Test.YtpomeeakmpbocaaDoorW30
namespace Go.Proofs.YtpomeeakmpbocaaDoor
set_option linter.unusedSimpArgs false
set_option linter.unusedVariables false
set_option maxRecDepth 20000
set_option maxHeartbeats 1000000
open Go.Abs

/-- Whether these are a network's parts. -/
def netB (m : Int) (bx mx : Nat → UInt8) (kd r : Int) : Bool := fieldB m.toNat && (boxOk bx && (detF m.toNat mx != 0 && (inR kd 0 2 && inR r 1 40)))
/-- Whether these are a cipher's parts. -/
def cipB (m : Int) (bx mx pl : Nat → UInt8) (r : Int) : Bool := fieldB m.toNat && (boxOk bx && (detF m.toNat mx != 0 && (plOk pl && inR r 1 20)))
theorem netB_nat {m : Int} {bx mx : Nat → UInt8} {kd r : Int} (h : netB m bx mx kd r = true) : ∃ k : Nat, m = k ∧ 256 ≤ k ∧ k < 512 ∧ fieldB k = true ∧ detF k mx ≠ 0 ∧ 0 ≤ kd ∧ kd ≤ 2 ∧ ∃ n : Nat, r = n ∧ 1 ≤ n ∧ n ≤ 40 := by
  unfold netB at h
  simp only [Bool.and_eq_true] at h
  obtain ⟨hf, hb, hd, hk, hr⟩ := h
  obtain ⟨k, rfl, h2, h0, h1⟩ := fieldB_nat hf
  unfold inR at hk hr
  simp only [Bool.and_eq_true, decide_eq_true_eq] at hk hr
  exact ⟨k, rfl, h0, h1, h2, by simpa using hd, hk.1, hk.2, r.toNat, by omega, by omega, by omega⟩
theorem cipB_nat {m : Int} {bx mx pl : Nat → UInt8} {r : Int} (h : cipB m bx mx pl r = true) : ∃ k : Nat, m = k ∧ 256 ≤ k ∧ k < 512 ∧ fieldB k = true ∧ detF k mx ≠ 0 ∧ plOk pl = true ∧ ∃ n : Nat, r = n ∧ 1 ≤ n ∧ n ≤ 20 := by
  unfold cipB at h
  simp only [Bool.and_eq_true] at h
  obtain ⟨hf, hb, hd, hp, hr⟩ := h
  obtain ⟨k, rfl, h2, h0, h1⟩ := fieldB_nat hf
  unfold inR at hr
  simp only [Bool.and_eq_true, decide_eq_true_eq] at hr
  exact ⟨k, rfl, h0, h1, h2, by simpa using hd, hp, r.toNat, by omega, by omega, by omega⟩

end Go.Proofs.YtpomeeakmpbocaaDoor
