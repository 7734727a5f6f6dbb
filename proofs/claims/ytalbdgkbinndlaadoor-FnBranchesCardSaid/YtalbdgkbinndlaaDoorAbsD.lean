/- The abstract machine, part D: new blocks, stores, appends. How abstract memory follows the world. Generic: no program in sight. -/
import Derived.Test.YtalbdgkbinndlaaDoorAbsC
namespace Go.Abs
set_option linter.unusedSimpArgs false
set_option linter.unusedVariables false
set_option maxRecDepth 20000
set_option maxHeartbeats 1000000

/-- A list of abstract cells stands for the first cells of a row. -/
def Row (E : Emb) (n : Nat) (cs ds : List Value) : Prop := ∀ (i : Nat) (x : Value), cs[i]? = some x → ∃ y, ds[i]? = some y ∧ CR E n x y

theorem P2.row {E : Emb} {n : Nat} {cs ds : List Value} (h : P2 (CR E n) cs ds) : Row E n cs ds := fun _ _ hx => h.get hx

theorem Row.length {E : Emb} {n : Nat} {cs ds : List Value} (h : Row E n cs ds) : cs.length ≤ ds.length := by
  rcases Nat.lt_or_ge ds.length cs.length with hl | hl
  · obtain ⟨y, hy, _⟩ := h ds.length _ (List.getElem?_eq_getElem hl)
    have := (List.getElem?_eq_some_iff.1 hy).1
    omega
  · exact hl

theorem Row.splice {E : Emb} {n : Nat} {cs ds xs ys : List Value} {off : Nat} (h : Row E n cs ds) (h' : P2 (CR E n) xs ys) (hl : off + xs.length ≤ cs.length) :
    Row E n (splice cs off xs) (splice ds off ys) := by
  intro i x hx
  have := h.length
  rw [splice_get hl] at hx
  rw [splice_get (by rw [← h'.1]; omega), ← h'.1]
  split at hx
  · rename_i hc; rw [if_pos hc]; exact h'.get hx
  · rename_i hc; rw [if_neg hc]; exact h i x hx

section
variable {E : Emb} {h : List Blk} {w : World}

theorem HR.of_heap (hr : HR E h w) {w' : World} (hh : w'.heap = w.heap) : HR E h w' :=
  { lt := fun b k hb => by rw [hh]; exact hr.lt b k hb
    cell := fun b k i x hb hx => by
      obtain ⟨y, hy, hc⟩ := hr.cell b k i x hb hx
      exact ⟨y, by rw [← hy]; simp [World.cell?, hh], hc⟩
    room := hr.room
    own := fun b k hb hk => by rw [hh]; exact hr.own b k hb hk
    sep := hr.sep
    door := hr.door.keep (Nat.le_of_eq (by rw [hh])) fun i _ => by rw [hh]
    away := hr.away }

theorem HR.row (hr : HR E h w) {b : Nat} {k : Blk} (hb : h[b]? = some k) (h0 : E.base b = 0) {cs : Array Value} {e : TypeId} {fz : Nat × Nat} (hc : w.heap[E.loc b]? = some (.cells cs e fz)) : Row E h.length k.cells cs.toList := by
  intro i x hx
  obtain ⟨y, hy, hr'⟩ := hr.cell b k i x hb hx
  rw [Emb.at, h0, Nat.zero_add, cell_of_row w (E.loc b) i cs e fz hc] at hy
  exact ⟨y, by simpa using hy, hr'⟩

/-- The embedding, with one block more. -/
def Emb.with (E : Emb) (b l r : Nat) : Emb := ⟨fun c => if c = b then l else E.loc c, fun c => if c = b then r else E.room c, fun c => if c = b then 0 else E.base c⟩

theorem Emb.with_loc {b l r c : Nat} (hc : c ≠ b) : (E.with b l r).loc c = E.loc c := by simp [Emb.with, hc]
theorem Emb.with_room {b l r c : Nat} (hc : c ≠ b) : (E.with b l r).room c = E.room c ∧ (E.with b l r).base c = E.base c := by simp [Emb.with, hc]

theorem get_push {h : List Blk} {x : Blk} {b : Nat} {k : Blk} (hb : (h ++ [x])[b]? = some k) : (b < h.length ∧ h[b]? = some k) ∨ (b = h.length ∧ k = x) := by
  rw [List.getElem?_append] at hb
  split at hb
  · rename_i hl; exact .inl ⟨hl, hb⟩
  · rename_i hl
    have : b - h.length < [x].length := (List.getElem?_eq_some_iff.1 hb).1
    simp at this
    have he : b = h.length := by omega
    subst he
    simp at hb
    exact .inr ⟨rfl, hb.symm⟩

/-- A new block. -/
theorem HR.alloc (hr : HR E h w) {cs : List Value} {ds : Array Value} {ty : TypeId} (hc : Row E h.length cs ds.toList) :
    HR (E.with h.length w.heap.size ds.size) (h ++ [⟨cs, true⟩]) (w.alloc (.cells ds ty)) ∧ Link E h w (E.with h.length w.heap.size ds.size) (h ++ [⟨cs, true⟩]) (w.alloc (.cells ds ty)) := by
  have loc : ∀ b, b < h.length → (E.with h.length w.heap.size ds.size).loc b = E.loc b := fun b hb => Emb.with_loc (by omega)
  have room : ∀ b, b < h.length → (E.with h.length w.heap.size ds.size).room b = E.room b ∧ (E.with h.length w.heap.size ds.size).base b = E.base b := fun b hb => Emb.with_room (by omega)
  have locn : (E.with h.length w.heap.size ds.size).loc h.length = w.heap.size := by simp [Emb.with]
  have roomn : (E.with h.length w.heap.size ds.size).room h.length = ds.size := by simp [Emb.with]
  have basen : (E.with h.length w.heap.size ds.size).base h.length = 0 := by simp [Emb.with]
  have old : ∀ i, i < w.heap.size → (w.alloc (.cells ds ty)).heap[i]? = w.heap[i]? := fun i hi => RowKit.Below.heap_alloc w _ i hi
  have new : (w.alloc (.cells ds ty)).heap[w.heap.size]? = some (.cells ds ty (0, 0)) := heap_alloc_new w _
  refine ⟨⟨fun b k hb => ?_, fun b k i x hb hx => ?_, fun b k hb => ?_, fun b k hb hk => ?_, fun b k hb hk b' k' hb' hne hlive => ?_, hr.door.keep (by simp) (fun i hi => old i (Nat.lt_of_lt_of_le hi hr.door.lt)), fun b k hb hk => by
      rcases get_push hb with ⟨hl, hb⟩ | ⟨rfl, rfl⟩
      · rw [loc b hl]; exact hr.away b k hb hk
      · rw [locn]; exact hr.door.lt⟩,
    ⟨by simp, loc, room, by simp, rfl, rfl, rfl, fun i hi _ => old i hi, fun b k hb hk => ?_⟩⟩
  · rcases get_push hb with ⟨hl, hb⟩ | ⟨rfl, rfl⟩
    · rw [loc b hl]; have := hr.lt b k hb; simp; omega
    · rw [locn]; simp
  · rcases get_push hb with ⟨hl, hb⟩ | ⟨rfl, rfl⟩
    · obtain ⟨y, hy, hc'⟩ := hr.cell b k i x hb hx
      refine ⟨y, ?_, hc'.mono loc room (by simp)⟩
      rw [Emb.at, loc b hl, (room b hl).2, World.cell?_of_block (old _ (hr.lt b k hb))]; exact hy
    · obtain ⟨y, hy, hc'⟩ := hc i x hx
      refine ⟨y, ?_, hc'.mono loc room (by simp)⟩
      rw [Emb.at, locn, basen, Nat.zero_add, cell_of_row _ _ i ds ty (0, 0) new]; simpa using hy
  · rcases get_push hb with ⟨hl, hb⟩ | ⟨rfl, rfl⟩
    · rw [(room b hl).1]; exact hr.room b k hb
    · rw [roomn]; have := hc.length; simpa using this
  · rcases get_push hb with ⟨hl, hb⟩ | ⟨rfl, rfl⟩
    · obtain ⟨h0, cs', e', h1, h2⟩ := hr.own b k hb hk
      exact ⟨(room b hl).2.trans h0, cs', e', by rw [loc b hl, old _ (hr.lt b k hb)]; exact h1, by rw [(room b hl).1]; exact h2⟩
    · exact ⟨basen, ds, ty, by rw [locn]; exact new, by rw [roomn]⟩
  · rcases get_push hb with ⟨hl, hb⟩ | ⟨rfl, rfl⟩
    · rcases get_push hb' with ⟨hl', hb'⟩ | ⟨rfl, rfl⟩
      · rw [loc b hl, loc b' hl']; exact hr.sep b k hb hk b' k' hb' hne hlive
      · rw [locn, loc b hl]; have := hr.lt b k hb; omega
    · rcases get_push hb' with ⟨hl', hb'⟩ | ⟨rfl, rfl⟩
      · rw [locn, loc b' hl']; have := hr.lt b' k' hb'; omega
      · exact absurd rfl hne
  · rcases get_push hb with ⟨hl, hb⟩ | ⟨rfl, rfl⟩
    · exact .inr ⟨b, k, hb, hk, (loc b hl).symm⟩
    · exact .inl (by rw [locn]; exact Nat.le_refl _)

theorem get_set {h : List Blk} {x : Blk} {b c : Nat} {k : Blk} (hb : (h.set b x)[c]? = some k) : (c ≠ b ∧ h[c]? = some k) ∨ (c = b ∧ k = x ∧ b < h.length) := by
  rw [List.getElem?_set] at hb
  split at hb
  · rename_i hbc
    split at hb
    · rename_i hl; cases hb; exact .inr ⟨hbc.symm, rfl, hl⟩
    · cases hb
  · rename_i hbc; exact .inl ⟨fun e => hbc e.symm, hb⟩

/-- A block of ours is written. -/
theorem HR.write (hr : HR E h w) {b : Nat} {k : Blk} (hb : h[b]? = some k) (hk : k.rw = true) {ds0 : Array Value} {e : TypeId} (h0 : w.heap[E.loc b]? = some (.cells ds0 e (0, 0)))
    {cs : List Value} {ds : Array Value} (hc : Row E h.length cs ds.toList) (hs : ds.size = ds0.size) :
    HR E (h.set b ⟨cs, true⟩) (w.setRow (E.loc b) ds) ∧ Link E h w E (h.set b ⟨cs, true⟩) (w.setRow (E.loc b) ds) := by
  have other : ∀ i, i ≠ E.loc b → (w.setRow (E.loc b) ds).heap[i]? = w.heap[i]? := fun i hi => setRow_other w _ i ds hi
  have here : (w.setRow (E.loc b) ds).heap[E.loc b]? = some (.cells ds e (0, 0)) := setRow_heap w _ ds0 ds e _ h0
  obtain ⟨hb0, ds1, e1, h1, h2⟩ := hr.own b k hb hk
  have hds : ds1 = ds0 := by rw [h0] at h1; cases h1; rfl
  subst hds
  refine ⟨⟨fun c k' hc' => ?_, fun c k' i x hc' hx => ?_, fun c k' hc' => ?_, fun c k' hc' hk' => ?_, fun c k' hc' hk' c' k'' hc'' hne hlive => ?_, hr.door.keep (by simp) (fun i hi => other i (fun e => by have := hr.away b k hb hk; omega)), fun c k' hc' hk' => by
      rcases get_set hc' with ⟨_, hc'⟩ | ⟨rfl, _, _⟩
      · exact hr.away c k' hc' hk'
      · exact hr.away c k hb hk⟩,
    ⟨by simp, fun _ _ => rfl, fun _ _ => ⟨rfl, rfl⟩, by simp, rfl, rfl, rfl, fun i hi hn => other i (fun e => hn b k hb hk e.symm), fun c k' hc' hk' => .inr ?_⟩⟩
  · rw [setRow_size]
    rcases get_set hc' with ⟨_, hc'⟩ | ⟨rfl, _, _⟩
    · exact hr.lt c k' hc'
    · exact hr.lt c k hb
  · simp only [List.length_set]
    rcases get_set hc' with ⟨hne, hc'⟩ | ⟨rfl, rfl, _⟩
    · obtain ⟨y, hy, hr'⟩ := hr.cell c k' i x hc' hx
      refine ⟨y, ?_, hr'⟩
      rw [cell_setRow_other _ _ _ _ (hr.sep b k hb hk c k' hc' hne (.inr (fun e => by rw [e] at hx; simp at hx)))]; exact hy
    · obtain ⟨y, hy, hr'⟩ := hc i x hx
      refine ⟨y, ?_, hr'⟩
      rw [Emb.at, hb0, Nat.zero_add, cell_of_row _ _ i ds e (0, 0) here]; simpa using hy
  · rcases get_set hc' with ⟨hne, hc'⟩ | ⟨rfl, rfl, _⟩
    · exact hr.room c k' hc'
    · have := hc.length; simp at this; simp only; omega
  · rcases get_set hc' with ⟨hne, hc'⟩ | ⟨rfl, rfl, _⟩
    · obtain ⟨h0, cs', e', h3, h4⟩ := hr.own c k' hc' hk'
      exact ⟨h0, cs', e', by rw [other _ (hr.sep b k hb hk c k' hc' hne (.inl hk'))]; exact h3, h4⟩
    · exact ⟨hb0, ds, e, here, by omega⟩
  · rcases get_set hc' with ⟨hne1, q1⟩ | ⟨e1, e2, _⟩
    · rcases get_set hc'' with ⟨hne2, q2⟩ | ⟨e3, e4, _⟩
      · exact hr.sep c k' q1 hk' c' k'' q2 hne hlive
      · rw [e3]; exact hr.sep c k' q1 hk' b k hb (Ne.symm hne1) (.inl hk)
    · rcases get_set hc'' with ⟨hne2, q2⟩ | ⟨e3, e4, _⟩
      · rw [e1]; exact hr.sep b k hb hk c' k'' q2 hne2 hlive
      · exact absurd (e3.trans e1.symm) hne
  · rcases get_set hc' with ⟨hne, hc'⟩ | ⟨rfl, rfl, _⟩
    · exact ⟨c, k', hc', hk', rfl⟩
    · exact ⟨c, k, hb, hk, rfl⟩

/-- A block of ours is given up: nothing is known of it. -/
def dead : Blk := ⟨[], false⟩

theorem HR.kill (hr : HR E h w) (b : Nat) : HR E (h.set b dead) w := by
  refine ⟨fun c k hc => ?_, fun c k i x hc hx => ?_, fun c k hc => ?_, fun c k hc hk => ?_, fun c k hc hk c' k' hc' hne hlive => ?_, hr.door, fun c k hc hk => by
    rcases get_set hc with ⟨_, hc⟩ | ⟨_, rfl, _⟩
    · exact hr.away c k hc hk
    · simp [dead] at hk⟩
  · rcases get_set hc with ⟨_, hc⟩ | ⟨rfl, _, hl⟩
    · exact hr.lt c k hc
    · exact hr.lt c _ (List.getElem?_eq_getElem hl)
  · simp only [List.length_set]
    rcases get_set hc with ⟨_, hc⟩ | ⟨rfl, rfl, hl⟩
    · exact hr.cell c k i x hc hx
    · simp [dead] at hx
  · rcases get_set hc with ⟨_, hc⟩ | ⟨rfl, rfl, hl⟩
    · exact hr.room c k hc
    · simp [dead]
  · rcases get_set hc with ⟨_, hc⟩ | ⟨rfl, rfl, hl⟩
    · exact hr.own c k hc hk
    · simp [dead] at hk
  · rcases get_set hc with ⟨_, hc⟩ | ⟨rfl, rfl, hl⟩
    · rcases get_set hc' with ⟨_, hc'⟩ | ⟨rfl, rfl, hl⟩
      · exact hr.sep c k hc hk c' k' hc' hne hlive
      · simp [dead] at hlive
    · simp [dead] at hk

theorem Link.kill (E : Emb) (h : List Blk) (w : World) (b : Nat) : Link E h w E (h.set b dead) w :=
  (Link.refl E h w).cut (by simp) fun c k hc hk => by
    rcases get_set hc with ⟨_, hc⟩ | ⟨rfl, rfl, hl⟩
    · exact ⟨k, hc, hk⟩
    · simp [dead] at hk

/-- A block of ours goes on under a new number: the old one is dead. -/
theorem HR.pass (hr : HR E h w) {b : Nat} {k : Blk} (hb : h[b]? = some k) (hk : k.rw = true) :
    HR (E.with h.length (E.loc b) (E.room b)) (h.set b dead ++ [k]) w ∧ Link E h w (E.with h.length (E.loc b) (E.room b)) (h.set b dead ++ [k]) w := by
  have hbl : b < h.length := (List.getElem?_eq_some_iff.1 hb).1
  have loc : ∀ c, c < h.length → (E.with h.length (E.loc b) (E.room b)).loc c = E.loc c := fun c hc => Emb.with_loc (by omega)
  have room : ∀ c, c < h.length → (E.with h.length (E.loc b) (E.room b)).room c = E.room c ∧ (E.with h.length (E.loc b) (E.room b)).base c = E.base c := fun c hc => Emb.with_room (by omega)
  have locn : (E.with h.length (E.loc b) (E.room b)).loc h.length = E.loc b := by simp [Emb.with]
  have roomn : (E.with h.length (E.loc b) (E.room b)).room h.length = E.room b := by simp [Emb.with]
  have basen : (E.with h.length (E.loc b) (E.room b)).base h.length = 0 := by simp [Emb.with]
  have hb0 := (hr.own b k hb hk).1
  have cases' : ∀ (c : Nat) (k' : Blk), (h.set b dead ++ [k])[c]? = some k' → (c < h.length ∧ c ≠ b ∧ h[c]? = some k') ∨ (c = b ∧ k' = dead) ∨ (c = h.length ∧ k' = k) := fun c k' hc => by
    rcases get_push hc with ⟨hl, hc⟩ | ⟨h1, h2⟩
    · simp at hl
      rcases get_set hc with ⟨hne, hc⟩ | ⟨h1, h2, _⟩
      · exact .inl ⟨hl, hne, hc⟩
      · exact .inr (.inl ⟨h1, h2⟩)
    · simp at h1
      exact .inr (.inr ⟨h1, h2⟩)
  refine ⟨⟨fun c k' hc => ?_, fun c k' i x hc hx => ?_, fun c k' hc => ?_, fun c k' hc hk' => ?_, fun c k' hc hk' c' k'' hc' hne hlive => ?_, hr.door, fun c k' hc hk' => by
      rcases cases' c k' hc with ⟨hl, _, hc⟩ | ⟨rfl, rfl⟩ | ⟨rfl, rfl⟩
      · rw [loc c hl]; exact hr.away c k' hc hk'
      · simp [dead] at hk'
      · rw [locn]; exact hr.away b k' hb hk⟩,
    ⟨by simp, loc, room, Nat.le_refl _, rfl, rfl, rfl, fun _ _ _ => rfl, fun c k' hc hk' => .inr ?_⟩⟩
  · rcases cases' c k' hc with ⟨hl, _, hc⟩ | ⟨rfl, rfl⟩ | ⟨rfl, rfl⟩
    · rw [loc c hl]; exact hr.lt c k' hc
    · rw [loc c hbl]; exact hr.lt c k hb
    · rw [locn]; exact hr.lt b k' hb
  · simp only [List.length_append, List.length_set, List.length_cons, List.length_nil]
    rcases cases' c k' hc with ⟨hl, _, hc⟩ | ⟨rfl, rfl⟩ | ⟨rfl, rfl⟩
    · obtain ⟨y, hy, hr'⟩ := hr.cell c k' i x hc hx
      exact ⟨y, by rw [Emb.at, loc c hl, (room c hl).2]; exact hy, hr'.mono loc room (by omega)⟩
    · simp [dead] at hx
    · obtain ⟨y, hy, hr'⟩ := hr.cell b k' i x hb hx
      exact ⟨y, by rw [Emb.at, locn, basen, ← hb0]; exact hy, hr'.mono loc room (by omega)⟩
  · rcases cases' c k' hc with ⟨hl, _, hc⟩ | ⟨rfl, rfl⟩ | ⟨rfl, rfl⟩
    · rw [(room c hl).1]; exact hr.room c k' hc
    · simp [dead]
    · rw [roomn]; exact hr.room b k' hb
  · rcases cases' c k' hc with ⟨hl, _, hc⟩ | ⟨rfl, rfl⟩ | ⟨rfl, rfl⟩
    · rw [loc c hl, (room c hl).1, (room c hl).2]; exact hr.own c k' hc hk'
    · simp [dead] at hk'
    · rw [locn, roomn, basen]; exact ⟨rfl, (hr.own b k' hb hk).2⟩
  · rcases cases' c k' hc with ⟨hl, hcb, q1⟩ | ⟨e1, e2⟩ | ⟨e1, e2⟩
    · rcases cases' c' k'' hc' with ⟨hl', hcb', q2⟩ | ⟨e3, e4⟩ | ⟨e3, e4⟩
      · rw [loc c hl, loc c' hl']; exact hr.sep c k' q1 hk' c' k'' q2 hne hlive
      · rw [e4] at hlive; simp [dead] at hlive
      · rw [e3, locn, loc c hl]; exact hr.sep c k' q1 hk' b k hb (Ne.symm hcb) (.inl hk)
    · rw [e2] at hk'; simp [dead] at hk'
    · rcases cases' c' k'' hc' with ⟨hl', hcb', q2⟩ | ⟨e3, e4⟩ | ⟨e3, e4⟩
      · rw [e1, locn, loc c' hl']; exact hr.sep b k hb hk c' k'' q2 hcb' hlive
      · rw [e4] at hlive; simp [dead] at hlive
      · exact absurd (e3.trans e1.symm) hne
  · rcases cases' c k' hc with ⟨hl, _, hc⟩ | ⟨rfl, rfl⟩ | ⟨rfl, rfl⟩
    · exact ⟨c, k', hc, hk', (loc c hl).symm⟩
    · simp [dead] at hk'
    · exact ⟨b, k', hb, hk, locn.symm⟩

end
end Go.Abs
