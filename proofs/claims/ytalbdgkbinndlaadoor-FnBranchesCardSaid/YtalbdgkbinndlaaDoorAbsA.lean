/- The abstract machine, part A: how abstract values and abstract memory stand for the model's own values and memory. Generic: no program in sight. -/
import Derived.WalkKit
import Derived.WalkSpells
import Derived.Still
import Derived.Test.YtalbdgkbinndlaaDoorDoor
namespace Go.Abs
set_option linter.unusedSimpArgs false
set_option linter.unusedVariables false
set_option maxRecDepth 20000
set_option maxHeartbeats 1000000

/-- A value of which nothing is known. -/
abbrev J : Value := .chan none
/-- A value of which it is known that it is none. -/
abbrev U : Value := .tuple #[]

/-- Where the abstract blocks lie, and how many cells each has there. -/
structure Emb where
  loc : Nat → Nat
  room : Nat → Nat
  base : Nat → Nat := fun _ => 0

/-- Where a cell of an abstract block lies. -/
abbrev Emb.at (E : Emb) (b o : Nat) : Addr := ⟨E.loc b, E.base b + o, none⟩

/-- One cell's abstract value stands for a concrete one. The third part of an abstract slice is the size of its elements. -/
def CR (E : Emb) (n : Nat) : Value → Value → Prop
  | .chan none, v => v.oneCell' = true
  | .pointer (some a), v => a.spot = none ∧ a.block < n ∧ v = .pointer (some (E.at a.block a.off))
  | .slice (some a) len es, v => a.spot = none ∧ a.block < n ∧ ∃ a' cap, v = .slice (some a') len cap ∧ len ≤ cap ∧
      (cap = 0 ∨ (a' = E.at a.block a.off ∧ a.off + cap * es ≤ E.room a.block))
  | .agg _, _ => False
  | .tuple _, _ => False
  | u, v => v = u

def P2 (R : Value → Value → Prop) (xs ys : List Value) : Prop :=
  xs.length = ys.length ∧ ∀ (i : Nat) (x y : Value), xs[i]? = some x → ys[i]? = some y → R x y

def VR1 (E : Emb) (n : Nat) : Value → Value → Prop
  | .agg cs, v => ∃ ds, v = .agg ds ∧ P2 (CR E n) cs.toList ds.toList
  | .chan none, _ => True
  | u, v => CR E n u v

def VR (E : Emb) (n : Nat) : Value → Value → Prop
  | .tuple vs, v => ∃ us, v = .tuple us ∧ P2 (VR1 E n) vs.toList us.toList
  | u, v => VR1 E n u v

section p2
variable {R R' : Value → Value → Prop} {xs ys xs' ys' : List Value}

theorem P2.mono (h : P2 R xs ys) (hr : ∀ x y, R x y → R' x y) : P2 R' xs ys := ⟨h.1, fun i x y hx hy => hr _ _ (h.2 i x y hx hy)⟩

theorem P2.nil : P2 R [] [] := ⟨rfl, fun i x y hx => by simp at hx⟩

theorem P2.cons {x y : Value} (h0 : R x y) (h : P2 R xs ys) : P2 R (x :: xs) (y :: ys) := by
  refine ⟨by simp [h.1], fun i u v hu hv => ?_⟩
  cases i with
  | zero => simp at hu hv; rw [← hu, ← hv]; exact h0
  | succ i => simp at hu hv; exact h.2 i u v hu hv

theorem P2.append (h : P2 R xs ys) (h' : P2 R xs' ys') : P2 R (xs ++ xs') (ys ++ ys') := by
  refine ⟨by simp [h.1, h'.1], fun i u v hu hv => ?_⟩
  rw [List.getElem?_append] at hu hv
  by_cases hi : i < xs.length
  · rw [if_pos hi] at hu
    rw [if_pos (h.1 ▸ hi)] at hv
    exact h.2 i u v hu hv
  · rw [if_neg hi] at hu
    rw [if_neg (h.1 ▸ hi), ← h.1] at hv
    exact h'.2 _ u v hu hv

theorem P2.get (h : P2 R xs ys) {i : Nat} {x : Value} (hx : xs[i]? = some x) : ∃ y, ys[i]? = some y ∧ R x y := by
  have hi : i < xs.length := (List.getElem?_eq_some_iff.1 hx).1
  have hi' : i < ys.length := h.1 ▸ hi
  exact ⟨ys[i], List.getElem?_eq_getElem hi', h.2 i x _ hx (List.getElem?_eq_getElem hi')⟩

theorem P2.set (h : P2 R xs ys) {i : Nat} {x y : Value} (h0 : R x y) : P2 R (xs.set i x) (ys.set i y) := by
  refine ⟨by simp [h.1], fun j u v hu hv => ?_⟩
  rw [List.getElem?_set] at hu hv
  by_cases hij : i = j
  · subst hij
    rw [if_pos rfl] at hu hv
    split at hu
    · rename_i hi
      rw [if_pos (h.1 ▸ hi)] at hv
      cases hu; cases hv; exact h0
    · cases hu
  · rw [if_neg hij] at hu hv
    exact h.2 j u v hu hv

theorem P2.take (h : P2 R xs ys) (n : Nat) : P2 R (xs.take n) (ys.take n) := by
  refine ⟨by simp [h.1], fun j u v hu hv => ?_⟩
  rw [List.getElem?_take] at hu hv
  split at hu
  · rename_i hj; rw [if_pos hj] at hv; exact h.2 j u v hu hv
  · cases hu

theorem P2.drop (h : P2 R xs ys) (n : Nat) : P2 R (xs.drop n) (ys.drop n) := by
  refine ⟨by simp [h.1], fun j u v hu hv => ?_⟩
  rw [List.getElem?_drop] at hu hv
  exact h.2 _ u v hu hv

theorem P2.of_get (hl : xs.length = ys.length) (h : ∀ (i : Nat) (x : Value), xs[i]? = some x → ∃ y, ys[i]? = some y ∧ R x y) : P2 R xs ys :=
  ⟨hl, fun i x y hx hy => by obtain ⟨y', hy', hr⟩ := h i x hx; rw [hy'] at hy; cases hy; exact hr⟩
end p2

/-- Which cells' values speak of blocks below n alone. -/
def wfC (n : Nat) : Value → Prop
  | .pointer (some a) => a.block < n
  | .slice (some a) _ _ => a.block < n
  | _ => True

def wf1 (n : Nat) : Value → Prop
  | .agg cs => ∀ c ∈ cs.toList, wfC n c
  | v => wfC n v

def wfV (n : Nat) : Value → Prop
  | .tuple vs => ∀ v ∈ vs.toList, wf1 n v
  | v => wf1 n v

/-- Values that hold no address and are known: they stand for themselves alone. -/
def plainC : Value → Bool
  | .bool _ | .int _ _ | .string _ | .float _ _ | .complex _ _ _ | .nilIface | .nilFunc | .pointer none | .slice none _ _ => true
  | _ => false

def plain1 : Value → Bool
  | .agg cs => cs.toList.all plainC
  | v => plainC v

def plainV : Value → Bool
  | .tuple vs => vs.toList.all plain1
  | v => plain1 v

section cr
variable {E E' : Emb} {n n' : Nat} {u v : Value}

theorem CR.mono (h : CR E n u v) (hl : ∀ b, b < n → E'.loc b = E.loc b) (hr : ∀ b, b < n → E'.room b = E.room b ∧ E'.base b = E.base b) (hn : n ≤ n') : CR E' n' u v := by
  unfold CR at *
  split at h
  · exact h
  · obtain ⟨h1, h2, h3⟩ := h
    exact ⟨h1, by omega, by simp only [Emb.at, hl _ h2, (hr _ h2).2]; exact h3⟩
  · obtain ⟨h1, h2, a', cap, h3, h4, h5⟩ := h
    refine ⟨h1, by omega, a', cap, h3, h4, ?_⟩
    simp only [Emb.at, hl _ h2, (hr _ h2).1, (hr _ h2).2]; exact h5
  · exact h
  · exact h
  · exact h

theorem CR.wf (h : CR E n u v) : wfC n u := by
  unfold CR at h; unfold wfC
  split <;> simp_all

theorem CR.down (h : CR E n u v) (hw : wfC n' u) : CR E n' u v := by
  unfold CR at *
  split at h <;> simp_all [wfC]

theorem P2.wf {cs ds : List Value} (h : P2 (CR E n) cs ds) : ∀ c ∈ cs, wfC n c := fun c hc => by
  obtain ⟨i, hi⟩ := List.getElem?_of_mem hc
  obtain ⟨y, _, hr⟩ := h.get hi
  exact hr.wf

theorem P2.down {R R' : Value → Value → Prop} {cs ds : List Value} (h : P2 R cs ds) {W : Value → Prop} (hw : ∀ c ∈ cs, W c) (hr : ∀ x y, W x → R x y → R' x y) : P2 R' cs ds :=
  ⟨h.1, fun i x y hx hy => hr _ _ (hw x (List.mem_of_getElem? hx)) (h.2 i x y hx hy)⟩

theorem VR1.mono (h : VR1 E n u v) (hl : ∀ b, b < n → E'.loc b = E.loc b) (hr : ∀ b, b < n → E'.room b = E.room b ∧ E'.base b = E.base b) (hn : n ≤ n') : VR1 E' n' u v := by
  unfold VR1 at *
  split at h
  · obtain ⟨ds, h1, h2⟩ := h
    exact ⟨ds, h1, h2.mono fun _ _ h => h.mono hl hr hn⟩
  · trivial
  · exact h.mono hl hr hn

theorem VR.mono (h : VR E n u v) (hl : ∀ b, b < n → E'.loc b = E.loc b) (hr : ∀ b, b < n → E'.room b = E.room b ∧ E'.base b = E.base b) (hn : n ≤ n') : VR E' n' u v := by
  unfold VR at *
  split at h
  · obtain ⟨ds, h1, h2⟩ := h
    exact ⟨ds, h1, h2.mono fun _ _ h => h.mono hl hr hn⟩
  · exact h.mono hl hr hn

theorem VR1.down (h : VR1 E n u v) (hw : wf1 n' u) : VR1 E n' u v := by
  unfold VR1 at *
  split at h
  · obtain ⟨ds, h1, h2⟩ := h
    exact ⟨ds, h1, h2.down hw fun _ _ hw h => h.down hw⟩
  · trivial
  · rename_i hno _
    refine CR.down h ?_
    cases u <;> first | exact hw | exact (hno _ rfl).elim

theorem VR.down (h : VR E n u v) (hw : wfV n' u) : VR E n' u v := by
  unfold VR at *
  split at h
  · obtain ⟨ds, h1, h2⟩ := h
    exact ⟨ds, h1, h2.down hw fun _ _ hw h => h.down hw⟩
  · rename_i hno
    refine VR1.down h ?_
    cases u <;> first | exact hw | exact (hno _ rfl).elim

theorem VR.junk : VR E n J v := trivial
theorem VR.undef : VR E n U (.tuple #[]) := ⟨#[], rfl, P2.nil⟩

theorem CR.plain (h : CR E n u v) (hp : plainC u = true) : v = u := by
  cases u with
  | pointer a => cases a with
    | none => exact h
    | some a => cases hp
  | slice a l c => cases a with
    | none => exact h
    | some a => cases hp
  | chan r => cases hp
  | agg _ => cases hp
  | tuple _ => cases hp
  | _ => exact h

theorem CR.of_plain (hp : plainC u = true) : CR E n u u := by
  cases u with
  | pointer a => cases a with
    | none => exact rfl
    | some a => cases hp
  | slice a l c => cases a with
    | none => exact rfl
    | some a => cases hp
  | chan r => cases hp
  | agg _ => cases hp
  | tuple _ => cases hp
  | _ => exact rfl

theorem P2.eq {R : Value → Value → Prop} {p : Value → Bool} {cs ds : List Value} (h : P2 R cs ds) (hp : cs.all p = true) (hr : ∀ x y, p x = true → R x y → y = x) : ds = cs := by
  apply List.ext_getElem?
  intro i
  rcases Nat.lt_or_ge i cs.length with hi | hi
  · have hi' : i < ds.length := h.1 ▸ hi
    rw [List.getElem?_eq_getElem hi, List.getElem?_eq_getElem hi']
    congr 1
    exact hr _ _ (List.all_eq_true.1 hp _ (List.getElem_mem hi)) (h.2 i _ _ (List.getElem?_eq_getElem hi) (List.getElem?_eq_getElem hi'))
  · rw [List.getElem?_eq_none hi, List.getElem?_eq_none (h.1 ▸ hi)]

theorem P2.of_plain {R : Value → Value → Prop} {p : Value → Bool} {cs : List Value} (hp : cs.all p = true) (hr : ∀ x, p x = true → R x x) : P2 R cs cs :=
  ⟨rfl, fun i x y hx hy => by rw [hx] at hy; cases hy; exact hr _ (List.all_eq_true.1 hp _ (List.mem_of_getElem? hx))⟩

theorem VR1.plain (h : VR1 E n u v) (hp : plain1 u = true) : v = u := by
  unfold VR1 at h
  split at h
  · obtain ⟨ds, rfl, h2⟩ := h
    have := h2.eq hp fun _ _ hp h => h.plain hp
    congr 1
    exact Array.ext' this
  · cases hp
  · rename_i hno _
    refine CR.plain h ?_
    cases u <;> first | exact hp | exact (hno _ rfl).elim

theorem VR.plain (h : VR E n u v) (hp : plainV u = true) : v = u := by
  unfold VR at h
  split at h
  · obtain ⟨ds, rfl, h2⟩ := h
    have := h2.eq hp fun _ _ hp h => h.plain hp
    congr 1
    exact Array.ext' this
  · rename_i hno
    refine VR1.plain h ?_
    cases u <;> first | exact hp | exact (hno _ rfl).elim

theorem VR1.of_plain (hp : plain1 u = true) : VR1 E n u u := by
  unfold VR1
  split
  · exact ⟨_, rfl, P2.of_plain hp fun _ h => CR.of_plain h⟩
  · cases hp
  · rename_i hno _
    refine CR.of_plain ?_
    cases u <;> first | exact hp | exact (hno _ rfl).elim

theorem VR.of_plain (hp : plainV u = true) : VR E n u u := by
  unfold VR
  split
  · exact ⟨_, rfl, P2.of_plain hp fun _ h => VR1.of_plain h⟩
  · rename_i hno
    refine VR1.of_plain ?_
    cases u <;> first | exact hp | exact (hno _ rfl).elim

theorem CR.one (h : CR E n u v) : v.oneCell' = true := by
  unfold CR at h
  split at h
  · exact h
  · rw [h.2.2]; rfl
  · obtain ⟨_, _, a', cap, h3, _⟩ := h; rw [h3]; rfl
  · exact h.elim
  · exact h.elim
  · rw [h]; cases u <;> first | rfl | (rename_i hno _; exact (hno _ rfl).elim) | (rename_i _ hno; exact (hno _ rfl).elim) | (rename_i hno; exact (hno _ rfl).elim)

theorem P2.one {cs ds : List Value} (h : P2 (CR E n) cs ds) : ∀ y ∈ ds, y.oneCell' = true := fun y hy => by
  obtain ⟨i, hi⟩ := List.getElem?_of_mem hy
  have hi' : i < cs.length := by rw [h.1]; exact (List.getElem?_eq_some_iff.1 hi).1
  exact (h.2 i _ y (List.getElem?_eq_getElem hi') hi).one

theorem CR.not_agg {cs : Array Value} (h : CR E n (.agg cs) v) : False := h
end cr

/-- An abstract block: what its cells hold, and whether it is ours to write. -/
structure Blk where
  cells : List Value
  rw : Bool

/-- Abstract memory stands for a world. -/
structure HR (E : Emb) (H : List Blk) (w : World) : Prop where
  lt : ∀ (b : Nat) (k : Blk), H[b]? = some k → E.loc b < w.heap.size
  cell : ∀ (b : Nat) (k : Blk) (i : Nat) (x : Value), H[b]? = some k → k.cells[i]? = some x → ∃ y, w.cell? (E.at b i) = some y ∧ CR E H.length x y
  room : ∀ (b : Nat) (k : Blk), H[b]? = some k → k.cells.length ≤ E.room b
  own : ∀ (b : Nat) (k : Blk), H[b]? = some k → k.rw = true → E.base b = 0 ∧ ∃ cs e, w.heap[E.loc b]? = some (.cells cs e (0, 0)) ∧ cs.size = E.room b
  sep : ∀ (b : Nat) (k : Blk), H[b]? = some k → k.rw = true → ∀ (b' : Nat) (k' : Blk), H[b']? = some k' → b' ≠ b → (k'.rw = true ∨ k'.cells ≠ []) → E.loc b' ≠ E.loc b
  door : doorOk w
  away : ∀ (b : Nat) (k : Blk), H[b]? = some k → k.rw = true → doorN ≤ E.loc b

/-- One state is reached from another: what was not ours is as it was. -/
structure Link (E : Emb) (H : List Blk) (w : World) (E' : Emb) (H' : List Blk) (w' : World) : Prop where
  len : H.length ≤ H'.length
  loc : ∀ b, b < H.length → E'.loc b = E.loc b
  room : ∀ b, b < H.length → E'.room b = E.room b ∧ E'.base b = E.base b
  size : w.heap.size ≤ w'.heap.size
  os : w'.os = w.os
  tape : w'.tape = w.tape
  output : w'.output = w.output
  frame : ∀ i, i < w.heap.size → (∀ (b : Nat) (k : Blk), H[b]? = some k → k.rw = true → E.loc b ≠ i) → w'.heap[i]? = w.heap[i]?
  own : ∀ (b : Nat) (k : Blk), H'[b]? = some k → k.rw = true → w.heap.size ≤ E'.loc b ∨ ∃ b0 k0, H[b0]? = some k0 ∧ k0.rw = true ∧ E.loc b0 = E'.loc b

theorem Link.refl (E : Emb) (H : List Blk) (w : World) : Link E H w E H w :=
  ⟨Nat.le_refl _, fun _ _ => rfl, fun _ _ => ⟨rfl, rfl⟩, Nat.le_refl _, rfl, rfl, rfl, fun _ _ _ => rfl, fun b k hb hk => .inr ⟨b, k, hb, hk, rfl⟩⟩

theorem Link.trans {E E' E'' : Emb} {H H' H'' : List Blk} {w w' w'' : World} (h : Link E H w E' H' w') (h' : Link E' H' w' E'' H'' w'') : Link E H w E'' H'' w'' where
  len := Nat.le_trans h.len h'.len
  loc b hb := (h'.loc b (Nat.lt_of_lt_of_le hb h.len)).trans (h.loc b hb)
  room b hb := ⟨(h'.room b (Nat.lt_of_lt_of_le hb h.len)).1.trans (h.room b hb).1, (h'.room b (Nat.lt_of_lt_of_le hb h.len)).2.trans (h.room b hb).2⟩
  size := Nat.le_trans h.size h'.size
  os := h'.os.trans h.os
  tape := h'.tape.trans h.tape
  output := h'.output.trans h.output
  frame i hi hn := by
    refine (h'.frame i (Nat.lt_of_lt_of_le hi h.size) fun b k hb hk he => ?_).trans (h.frame i hi hn)
    rcases h.own b k hb hk with h1 | ⟨b0, k0, h1, h2, h3⟩
    · omega
    · exact hn b0 k0 h1 h2 (h3.trans he)
  own b k hb hk := by
    rcases h'.own b k hb hk with h1 | ⟨b0, k0, h1, h2, h3⟩
    · exact .inl (Nat.le_trans h.size h1)
    · rcases h.own b0 k0 h1 h2 with h4 | ⟨b1, k1, h4, h5, h6⟩
      · exact .inl (h3 ▸ h4)
      · exact .inr ⟨b1, k1, h4, h5, h6.trans h3⟩

/-- Memory that is cut back to its first blocks, or of which less is known. -/
theorem Link.cut {E E' : Emb} {H H' H1 : List Blk} {w w' : World} (h : Link E H w E' H' w') (hl : H.length ≤ H1.length)
    (ho : ∀ (b : Nat) (k : Blk), H1[b]? = some k → k.rw = true → ∃ k', H'[b]? = some k' ∧ k'.rw = true) : Link E H w E' H1 w' :=
  { h with
    len := hl
    own := fun b k hb hk => by
      obtain ⟨k', hb', hk'⟩ := ho b k hb hk
      exact h.own b k' hb' hk' }

/-- A cell that is there lies in a block of cells. -/
theorem lt_of_cell? {w : World} {a : Addr} {v : Value} (h : w.cell? a = some v) : a.block < w.heap.size := World.block_lt_of_cell? w a h

end Go.Abs
