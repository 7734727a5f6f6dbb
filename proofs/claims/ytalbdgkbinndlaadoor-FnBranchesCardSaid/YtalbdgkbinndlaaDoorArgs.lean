/- Arguments that are ciphers or networks, taken apart. Generic: no program in sight. -/
import Derived.Test.YtalbdgkbinndlaaDoorAbsM
import Derived.Test.YtalbdgkbinndlaaDoorAbsN
namespace Go.Abs
set_option linter.unusedSimpArgs false
set_option linter.unusedVariables false
set_option maxRecDepth 20000
set_option maxHeartbeats 1000000

theorem Fits.int1 {k : IntKind} {cs : List Value} (h : Fits [.int k] cs) : ∃ x, cs = [.int k x] ∧ (Lit.int k x).wf = true := by
  obtain ⟨v, rfl, hv⟩ := h.one
  obtain ⟨x, rfl, hx⟩ := hv
  exact ⟨x, rfl, hx⟩
section
variable {P : Program} {n : Nat} {t : TypeId} {ts : List TypeId} {us : List Value} {bl : List Blk}

theorem ArgsU.cipher (h : ArgsU P n (t :: ts) us bl) (hk : kinds P 8 t = some ([.int .i64] ++ (List.replicate 256 (.int .u8) ++ (List.replicate 16 (.int .u8) ++ (List.replicate 16 (.int .u8) ++ [.int .i64]))))) (ha : tagg P t = some true) :
    ∃ m bx mx pl r us', us = .agg (Ci m bx mx pl r).toArray :: us' ∧ ArgsU P n ts us' bl := by
  cases h with
  | agg hu hk' hf rest =>
    rw [hk] at hk'; cases hk'
    rename_i cs
    obtain ⟨a, b, e, h1, h2⟩ := hf.split
    obtain ⟨b1, b2, rfl, h3, h4⟩ := h2.split
    obtain ⟨c1, c2, rfl, h5, h6⟩ := h4.split
    obtain ⟨d1, d2, rfl, h7, h8⟩ := h6.split
    obtain ⟨m, rfl, _⟩ := h1.int1
    obtain ⟨bx, rfl⟩ := h3.bytes
    obtain ⟨mx, rfl⟩ := h5.bytes
    obtain ⟨pl, rfl⟩ := h7.bytes
    obtain ⟨r, rfl, _⟩ := h8.int1
    exact ⟨m, bx, mx, pl, r, _, by rw [show cs = (Ci m bx mx pl r).toArray from Array.ext' (by rw [e]; rfl)], rest⟩
  | cell hk' hu hf rest => rw [ha] at hu; cases hu
  | nils hu rest => simp [tagg, hu] at ha
  | slice hu hk' hl hf rest => simp [tagg, hu] at ha

theorem ArgsU.network (h : ArgsU P n (t :: ts) us bl) (hk : kinds P 8 t = some ([.int .i64] ++ (List.replicate 256 (.int .u8) ++ (List.replicate 16 (.int .u8) ++ ([.int .i64] ++ [.int .i64]))))) (ha : tagg P t = some true) :
    ∃ m bx mx kd r us', us = .agg (Nw m bx mx kd r).toArray :: us' ∧ ArgsU P n ts us' bl := by
  cases h with
  | agg hu hk' hf rest =>
    rw [hk] at hk'; cases hk'
    rename_i cs
    obtain ⟨a, b, e, h1, h2⟩ := hf.split
    obtain ⟨b1, b2, rfl, h3, h4⟩ := h2.split
    obtain ⟨c1, c2, rfl, h5, h6⟩ := h4.split
    obtain ⟨d1, d2, rfl, h7, h8⟩ := h6.split
    obtain ⟨m, rfl, _⟩ := h1.int1
    obtain ⟨bx, rfl⟩ := h3.bytes
    obtain ⟨mx, rfl⟩ := h5.bytes
    obtain ⟨kd, rfl, _⟩ := h7.int1
    obtain ⟨r, rfl, _⟩ := h8.int1
    exact ⟨m, bx, mx, kd, r, _, by rw [show cs = (Nw m bx mx kd r).toArray from Array.ext' (by rw [e]; rfl)], rest⟩
  | cell hk' hu hf rest => rw [ha] at hu; cases hu
  | nils hu rest => simp [tagg, hu] at ha
  | slice hu hk' hl hf rest => simp [tagg, hu] at ha
end
end Go.Abs
