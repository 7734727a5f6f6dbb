/- A part of the proof of FnFieldEquations. -/
import Derived.Test.YtapiaenodhhgdaaQFEH
/- Draws of blocks, places and matrices. -/
namespace Go.Proofs.Ytapiaenodhhgdaa
set_option linter.unusedSimpArgs false
set_option linter.unusedVariables false
set_option maxRecDepth 20000
set_option maxHeartbeats 1000000
open Go.Abs

theorem Cd.lt {h : List Blk} {b n : Nat} {cv : Value} {f : Nat → UInt8} (c : Cd h b cv n f) : ∀ bc n', cv = Go.Abs.sl bc 0 n' 1 → bc < h.length := by
  intro bc n' e
  cases c with
  | nil => cases e
  | sl _ hb hne => cases e; exact blt hb
theorem Cd.set2 {h h0 : List Blk} {b n n0 : Nat} {cv : Value} {f f0 : Nat → UInt8} (c : Cd h b cv n f) (c0 : Cd h0 b cv n0 f0) {i : Nat} (hi : h0.length ≤ i) (x : Blk) : Cd (h.set i x) b cv n f := by
  cases c with
  | nil => exact .nil f
  | sl _ hb hne =>
    have := c0.lt _ _ rfl
    exact .sl _ (set_at hb (by omega)) hne
theorem Aft.set {h h' : List Blk} {b : Nat} {cv : Value} (a : Aft h h' b cv) (s : SrcAt h b cv) {i : Nat} (hi : h.length ≤ i) (x : Blk) : Aft h (h'.set i x) b cv := by
  have hl := s.lt
  obtain ⟨k0, _, _, _, _, _, _, _, _, c0⟩ := s
  refine ⟨?_, fun j y hj hy => ?_, fun h0 hb e => ?_, by simpa using a.len⟩
  · obtain ⟨k, hb, aa, hs, n, f, e, l1, l2, c⟩ := a.src
    exact ⟨k, set_at hb (by omega), aa, hs, n, f, e, l1, l2, c.set2 c0 hi x⟩
  · have := blt hy
    exact set_at (a.keep j y hj hy) (by omega)
  · obtain ⟨L, e2⟩ := a.app h0 hb e
    obtain ⟨A, eA⟩ := e
    have hlen : h0.length ≤ i := by have := congrArg List.length eA; rw [List.length_append] at this; omega
    rw [e2]
    exact app_set' hlen x
theorem seq_ex {S : Type} {I : Nat → S → Prop} {R : Nat → S → S → Prop} {n : Nat} (s0 : S) (h0 : I 0 s0) (hs : ∀ k, k < n → ∀ s, I k s → ∃ t, I (k + 1) t ∧ R k s t) :
    ∃ f : Nat → S, f 0 = s0 ∧ (∀ k, k ≤ n → I k (f k)) ∧ ∀ k, k < n → R k (f k) (f (k + 1)) := by
  have h : ∀ p : Nat × S, ∃ t, p.1 < n → I p.1 p.2 → I (p.1 + 1) t ∧ R p.1 p.2 t := fun p => by
    by_cases hp : p.1 < n ∧ I p.1 p.2
    · obtain ⟨t, ht⟩ := hs p.1 hp.1 p.2 hp.2
      exact ⟨t, fun _ _ => ht⟩
    · exact ⟨p.2, fun a b => absurd ⟨a, b⟩ hp⟩
  obtain ⟨g, hg⟩ := Classical.axiomOfChoice h
  let f : Nat → S := fun k => Nat.rec s0 (fun k s => g (k, s)) k
  have hI : ∀ k, k ≤ n → I k (f k) := fun k => by
    induction k with
    | zero => exact fun _ => h0
    | succ k ih => exact fun hk => (hg (k, f k) (by show k < n; omega) (ih (by omega))).1
  exact ⟨f, rfl, hI, fun k hk => (hg (k, f k) hk (hI k (by omega))).2⟩
end Go.Proofs.Ytapiaenodhhgdaa
/- Ranks by elimination, rows and columns chosen by masks. Plain. -/
namespace Go.Proofs.Ytapiaenodhhgdaa
set_option linter.unusedSimpArgs false
set_option linter.unusedVariables false
set_option maxRecDepth 20000
set_option maxHeartbeats 1000000
open Go.Abs

/-- Where the q-th one stands. -/
def kp (C q : Nat) : Nat := ((List.range 4).filter C.testBit).getD q 0
structure RkSt where
  E : Nat → Nat → UInt8
  s : Nat → Nat
  r : Nat
/-- A permutation of the rows. -/
structure Pm (L : Nat) (s : Nat → Nat) : Prop where
  lt : ∀ p, p < L → s p < L
  inj : ∀ p q, p < L → q < L → s p = s q → p = q
end Go.Proofs.Ytapiaenodhhgdaa
/- Cycles of places: their lengths sum to 16. Plain. -/
namespace Go.Proofs.Ytapiaenodhhgdaa
set_option linter.unusedSimpArgs false
set_option linter.unusedVariables false
set_option maxRecDepth 20000
set_option maxHeartbeats 1000000
open Go.Abs

/-- The k-th place of a walk, and what is met then. -/
def cyI (p : Nat → UInt8) (i : Nat) : Nat → Nat
  | 0 => i
  | k + 1 => (p (cyI p i k)).toNat
def cyD (p : Nat → UInt8) (d : Nat → Bool) (i : Nat) : Nat → (Nat → Bool)
  | 0 => d
  | k + 1 => upd (cyD p d i k) (cyI p i k) true
/-- How long the walk is. -/
def cyN (p : Nat → UInt8) (d : Nat → Bool) (i : Nat) : Nat := skip (fun k => !(cyD p d i k (cyI p i k))) 17 0
def cyL (p : Nat → UInt8) (i k : Nat) : List Int := (List.range k).map fun j => ((cyI p i j : Nat) : Int)
section
variable {p : Nat → UInt8} (hp : ∀ i, i < 16 → (p i).toNat < 16)
include hp
end
/-- What is met, and the cycles, after the first s starts. -/
def cyR (p : Nat → UInt8) : Nat → (Nat → Bool) × List (List Int)
  | 0 => (fun _ => false, [])
  | s + 1 => (cyD p (cyR p s).1 s (cyN p (cyR p s).1 s), if cyN p (cyR p s).1 s = 0 then (cyR p s).2 else (cyR p s).2 ++ [cyL p s (cyN p (cyR p s).1 s)])
/-- The number of cycles after s starts, and the j-th cycle. -/
def cyC (p : Nat → UInt8) (s : Nat) : Nat := (cyR p s).2.length
def cyRow (p : Nat → UInt8) (j : Nat) : List Int := (cyR p 16).2.getD j []
section
variable {p : Nat → UInt8} (hp : ∀ i, i < 16 → (p i).toNat < 16)
include hp
end
end Go.Proofs.Ytapiaenodhhgdaa
