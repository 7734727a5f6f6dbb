/- Draws of fields, bytes and numbers. -/
import Derived.Test.YtmkhafmkllfmkaaDoorW60
import Derived.Test.YtmkhafmkllfmkaaDoorAbsZ
import Derived.Test.YtmkhafmkllfmkaaDoorAbsV
namespace Go.Proofs.YtmkhafmkllfmkaaDoor
set_option linter.unusedSimpArgs false
set_option linter.unusedVariables false
set_option maxRecDepth 20000
set_option maxHeartbeats 1000000
open Go.Abs

def SrcAt (h : List Blk) (b : Nat) (cv : Value) : Prop := ∃ k, h[b]? = some k ∧ Src h b cv k
/-- What a draw leaves of memory. -/
structure Aft (h h' : List Blk) (b : Nat) (cv : Value) : Prop where
  src : SrcAt h' b cv
  keep : ∀ (i : Nat) (x : Blk), i ≠ b → h[i]? = some x → h'[i]? = some x
  app : ∀ h0 : List Blk, h0.length ≤ b → (∃ L, h = h0 ++ L) → ∃ L, h' = h0 ++ L
  len : h.length ≤ h'.length
theorem SrcAt.lt {h : List Blk} {b : Nat} {cv : Value} (s : SrcAt h b cv) : b < h.length := by obtain ⟨k, hb, _⟩ := s; exact blt hb
theorem SrcAt.more {h : List Blk} {b : Nat} {cv : Value} (s : SrcAt h b cv) (L : List Blk) : Aft h (h ++ L) b cv := by
  obtain ⟨k, hb, hk⟩ := s
  exact ⟨⟨k, look_old hb L, hk.app L⟩, fun _ _ _ hx => look_old hx L, fun h0 _ ⟨A, e⟩ => ⟨A ++ L, by rw [e, List.append_assoc]⟩, by simp⟩
theorem Aft.trans {h h' h'' : List Blk} {b : Nat} {cv : Value} (x : Aft h h' b cv) (y : Aft h' h'' b cv) : Aft h h'' b cv :=
  ⟨y.src, fun i k hi hx => y.keep i k hi (x.keep i k hi hx), fun h0 hl e => y.app h0 hl (x.app h0 hl e), Nat.le_trans x.len y.len⟩
theorem app_set' {h0 L : List Blk} {i : Nat} (hi : h0.length ≤ i) (x : Blk) : ∃ L', (h0 ++ L).set i x = h0 ++ L' := ⟨L.set (i - h0.length) x, List.set_append_right _ _ hi⟩
theorem aft_set {h : List Blk} {b : Nat} {cv : Value} {k : Blk} (hl : b < h.length) (hk : Src h b cv k) : Aft h (h.set b k) b cv :=
  ⟨⟨k, look_set hl, hk.set k⟩, fun i x hi hx => set_at hx hi.symm, fun h0 hb ⟨L, e⟩ => by subst e; exact app_set' hb k, by simp⟩
def isI : Value → Bool
  | .int .i64 _ => true
  | _ => false
theorem ints_at : ∀ {cs : List Value} {n : Nat}, cs.all isI = true → n ≤ cs.length → ∀ i, i < n → ∃ v, cs[i]? = some (.int .i64 v)
  | [], n, _, h, i, hi => absurd h (by simp; omega)
  | c :: cs, n, h, hl, i, hi => by
    rw [List.all_cons, Bool.and_eq_true] at h
    cases i with
    | zero =>
      cases c with
      | int k v => cases k <;> first | exact ⟨v, rfl⟩ | exact absurd h.1 (by simp [isI])
      | _ => exact absurd h.1 (by simp [isI])
    | succ i => exact ints_at (cs := cs) (n := n - 1) h.2 (by simp at hl; omega) i (by omega)
/-- The fields among the first k numbers from 256 on. -/
def fl : Nat → List Int
  | 0 => []
  | k + 1 => if fieldB (256 + k) then fl k ++ [((256 + k : Nat) : Int)] else fl k
theorem fl_t {k : Nat} (h : fieldB (256 + k) = true) : fl (k + 1) = fl k ++ [((256 + k : Nat) : Int)] := by rw [fl, if_pos h]
theorem fl_f {k : Nat} (h : fieldB (256 + k) = false) : fl (k + 1) = fl k := by rw [fl, h]; rfl
theorem fl_le : ∀ k, (fl k).length ≤ k
  | 0 => Nat.le_refl 0
  | k + 1 => by have := fl_le k; unfold fl; split <;> simp <;> omega
/-- All fields. -/
def FL : List Int := fl 256
theorem FL_pos : 0 < FL.length := by decide +kernel
theorem FL_le : FL.length ≤ 256 := fl_le 256
theorem FL_eq : fl 256 = FL := rfl
attribute [irreducible] FL
theorem Il_snoc (l : List Int) (x : Int) : Il l ++ [.int .i64 x] = Il (l ++ [x]) := by unfold Il; rw [List.map_append]; rfl
theorem Il_isI (l : List Int) : (Il l).all isI = true := by
  unfold Il; rw [List.all_map, List.all_eq_true]; intro x _; rfl
/-- A code, as an argument. -/
inductive Cv (h : List Blk) : Value → Prop
  | nil : Cv h (.slice none 0 0)
  | sl {bc n : Nat} {f : Nat → UInt8} {rc : Bool} (hb : h[bc]? = some ⟨Bs n f, rc⟩) (hn : n ≤ 4096) : Cv h (sl bc 0 n 1)
theorem Cv.app {h : List Blk} {cv : Value} (c : Cv h cv) (L : List Blk) : Cv (h ++ L) cv := by
  cases c with
  | nil => exact .nil
  | sl hb hn => exact .sl (look_old hb L) hn
/-- The state of a source after k bytes. -/
def frH (s0 : Int) (f : Nat → UInt8) : Nat → Int
  | 0 => s0
  | k + 1 => IntKind.u64.wrap (IntKind.u64.wrap (IntKind.u64.wrap (frH s0 f k * 1099511628211) + ((f k).toNat : Int)) + 11)
end Go.Proofs.YtmkhafmkllfmkaaDoor
