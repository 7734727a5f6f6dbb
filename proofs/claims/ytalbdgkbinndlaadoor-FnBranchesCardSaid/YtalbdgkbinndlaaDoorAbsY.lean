/- The abstract machine, part Y: rows of blocks, and blocks that hold slices of them. Generic: no program in sight. -/
import Derived.Test.YtalbdgkbinndlaaDoorAbsW
import Derived.Test.YtalbdgkbinndlaaDoorAbsU
import Derived.Test.YtalbdgkbinndlaaDoorAbsM
namespace Go.Abs
set_option linter.unusedSimpArgs false
set_option linter.unusedVariables false
set_option maxRecDepth 20000
set_option maxHeartbeats 1000000

/-- A memory with k more blocks. -/
def rowsH (h : List Blk) (R : Nat → Blk) (k : Nat) : List Blk := h ++ (List.range k).map R
theorem rowsH_zero (h : List Blk) (R : Nat → Blk) : rowsH h R 0 = h := List.append_nil h
theorem rowsH_succ (h : List Blk) (R : Nat → Blk) (k : Nat) : rowsH h R (k + 1) = rowsH h R k ++ [R k] := by
  unfold rowsH; rw [List.range_succ, List.map_append, ← List.append_assoc]; rfl
theorem rowsH_app (h : List Blk) (R : Nat → Blk) (k : Nat) (L : List Blk) : rowsH h R (k + 1) ++ L = rowsH h R k ++ (R k :: L) := by
  rw [rowsH_succ, List.append_assoc]; rfl
@[simp] theorem rowsH_len (h : List Blk) (R : Nat → Blk) (k : Nat) : (rowsH h R k).length = h.length + k := by unfold rowsH; simp
theorem rowsH_lenS (h : List Blk) (R : Nat → Blk) (k : Nat) : (rowsH h R (k + 1)).length = (rowsH h R k).length + 1 := by rw [rowsH_len, rowsH_len]; omega
theorem rowsH_old {h : List Blk} (R : Nat → Blk) (k : Nat) {b : Nat} {x : Blk} (hb : h[b]? = some x) : (rowsH h R k)[b]? = some x := by
  unfold rowsH; rw [List.getElem?_append_left (List.getElem?_eq_some_iff.1 hb).1]; exact hb
theorem rowsH_get (h : List Blk) (R : Nat → Blk) {j k : Nat} (hj : j < k) : (rowsH h R k)[h.length + j]? = some (R j) := by
  unfold rowsH; rw [List.getElem?_append_right (by omega)]; simp [hj]
theorem rowsH_wf {h : List Blk} {R : Nat → Blk} {k : Nat} (hh : WfH h) (hR : ∀ j, (R j).cells.all plainC = true) : WfH (rowsH h R k) := by
  unfold rowsH
  refine hh.append fun x hx c hc => ?_
  obtain ⟨j, _, rfl⟩ := List.mem_map.1 hx
  exact wf_plain (hR j) c hc

/-- Slices of rows, one more. -/
theorem Fit_spine {N n' k b0 z : Nat} {r : List Nat} (hN : N = b0 + k) {q : Nat} (hq : q = N + r.getD 0 0) (hn : N < n') :
    Fit N r n' ⟨Vs k (fun j => sl (b0 + j) 0 z 1) ++ [sl q 0 z 1], true⟩ ⟨Vs (k + 1) (fun j => sl (b0 + j) 0 z 1), true⟩ := by
  have key : ∀ j, j < k → renC N r (sl (b0 + j) 0 z 1) = sl (b0 + j) 0 z 1 := fun j hj => by
    show Value.slice (some (renA N r ⟨b0 + j, 0, none⟩)) z 1 = _
    unfold renA
    rw [rhoF_old (by show b0 + j < N; omega)]
  refine Fit_ren ?_ (fun h => h) ?_
  · show Vs k _ ++ [sl q 0 z 1] = (Vs (k + 1) fun j => sl (b0 + j) 0 z 1).map (renC N r)
    unfold Vs
    rw [List.range_succ, List.map_append, List.map_append]
    congr 1
    · rw [List.map_map]
      exact List.map_congr_left fun j hj => (key j (List.mem_range.1 hj)).symm
    · show [sl q 0 z 1] = [Value.slice (some (renA N r ⟨b0 + k, 0, none⟩)) z 1]
      unfold renA
      rw [show b0 + k = N from hN.symm, rhoF_new0, hq]
  · intro c hc
    obtain ⟨j, hj, rfl⟩ := List.mem_map.1 (show c ∈ (List.range (k + 1)).map _ from hc)
    have := List.mem_range.1 hj
    show b0 + j < n'
    omega

/-- How many elements the first j rows have. -/
def sumL (len : Nat → Nat) : Nat → Nat
  | 0 => 0
  | j + 1 => sumL len j + len j
theorem sumL_le {len : Nat → Nat} {c : Nat} : ∀ {N : Nat}, (∀ j, j < N → len j ≤ c) → ∀ j, j ≤ N → sumL len j ≤ j * c
  | N, h, 0, _ => Nat.zero_le _
  | N, h, j + 1, hj => by
    have h1 := sumL_le h j (by omega)
    have h2 := h j (by omega)
    unfold sumL
    rw [Nat.add_mul, Nat.one_mul]
    omega
/-- A memory whose rows are set, one after the other. -/
def setR (h : List Blk) (g : Nat → Nat) (R : Nat → Blk) : Nat → List Blk
  | 0 => h
  | j + 1 => (setR h g R j).set (g j) (R j)
@[simp] theorem setR_len (h : List Blk) (g : Nat → Nat) (R : Nat → Blk) : ∀ k, (setR h g R k).length = h.length
  | 0 => rfl
  | k + 1 => by rw [setR, List.length_set, setR_len h g R k]
theorem setR_out {h : List Blk} {g : Nat → Nat} {R : Nat → Blk} {b : Nat} : ∀ {k : Nat}, (∀ j, j < k → g j ≠ b) → (setR h g R k)[b]? = h[b]?
  | 0, _ => rfl
  | k + 1, hb => by rw [setR, List.getElem?_set_ne (hb k (by omega)), setR_out fun j hj => hb j (by omega)]
theorem setR_get {h : List Blk} {g : Nat → Nat} {R : Nat → Blk} {N : Nat} (hi : ∀ i j, i < N → j < N → g i = g j → i = j) (hl : ∀ j, j < N → g j < h.length) : ∀ {k : Nat}, k ≤ N → ∀ {j : Nat}, j < k → (setR h g R k)[g j]? = some (R j)
  | 0, _, j, hj => absurd hj (Nat.not_lt_zero j)
  | k + 1, hk, j, hj => by
    rw [setR]
    by_cases e : j = k
    · subst e
      rw [List.getElem?_set, if_pos rfl, if_pos (by rw [setR_len]; exact hl j (by omega))]
    · rw [List.getElem?_set_ne (fun h => e (hi k j (by omega) (by omega) h).symm), setR_get hi hl (by omega) (by omega)]
theorem setR_app (h L : List Blk) (g : Nat → Nat) (R : Nat → Blk) : ∀ {k : Nat}, (∀ j, j < k → h.length ≤ g j) → ∃ L', setR (h ++ L) g R k = h ++ L' ∧ L'.length = L.length
  | 0, _ => ⟨L, rfl, rfl⟩
  | k + 1, hg => by
    obtain ⟨L', e, hl⟩ := setR_app h L g R (k := k) fun j hj => hg j (by omega)
    refine ⟨L'.set (g k - h.length) (R k), ?_, by rw [List.length_set]; exact hl⟩
    rw [setR, e, List.set_append_right _ _ (hg k (by omega))]
end Go.Abs
