/- The abstract machine: a slice that begins within a block is told as a block of its own, which no one writes. Generic: no program in sight. -/
import Derived.Test.YtenkjbkcdcionaaGreatAbsM
namespace Go.Abs
set_option linter.unusedSimpArgs false
set_option linter.unusedVariables false
set_option maxRecDepth 20000
set_option maxHeartbeats 1000000

theorem HR.view {E : Emb} {H : List Blk} {w : World} (hr : HR E H w) {b o : Nat} {cs : List Value} {r : Bool} (hb : H[b]? = some ⟨cs, r⟩) (ho : o ≤ cs.length) :
    HR ⟨fun i => if i = H.length then E.loc b else E.loc i, fun i => if i = H.length then E.room b - o else E.room i, fun i => if i = H.length then E.base b + o else E.base i⟩ (H.set b ⟨cs, false⟩ ++ ([⟨cs.drop o, false⟩] : List Blk)) w := by
  have hbl : b < H.length := (List.getElem?_eq_some_iff.1 hb).1
  have hlen : (H.set b ⟨cs, false⟩ ++ ([⟨cs.drop o, false⟩] : List Blk)).length = H.length + 1 := by simp
  have look : ∀ (b' : Nat) (k : Blk), (H.set b ⟨cs, false⟩ ++ ([⟨cs.drop o, false⟩] : List Blk))[b']? = some k → (b' = H.length ∧ k = ⟨cs.drop o, false⟩) ∨ (b' < H.length ∧ ∃ k0, H[b']? = some k0 ∧ k.cells = k0.cells ∧ (k.rw = true → k0.rw = true ∧ b' ≠ b)) := fun b' k hk => by
    rcases Nat.lt_or_ge b' H.length with hl | hl
    · refine .inr ⟨hl, ?_⟩
      rw [List.getElem?_append_left (by simpa using hl), List.getElem?_set] at hk
      by_cases e : b = b'
      · rw [if_pos e, if_pos hbl] at hk
        cases hk
        exact ⟨⟨cs, r⟩, by rw [← e]; exact hb, rfl, fun h => by cases h⟩
      · rw [if_neg e] at hk
        exact ⟨k, hk, rfl, fun h => ⟨h, fun e2 => e e2.symm⟩⟩
    · refine .inl ?_
      rw [List.getElem?_append_right (by simpa using hl), List.length_set] at hk
      obtain ⟨h1, h2⟩ := List.getElem?_eq_some_iff.1 hk
      have h3 : b' = H.length := by simp at h1; omega
      refine ⟨h3, ?_⟩
      subst h3
      simpa using h2.symm
  have eL : ∀ i, i < H.length → (if i = H.length then E.loc b else E.loc i) = E.loc i := fun i hi => if_neg (by omega)
  have eR : ∀ i, i < H.length → (if i = H.length then E.room b - o else E.room i) = E.room i := fun i hi => if_neg (by omega)
  have eB : ∀ i, i < H.length → (if i = H.length then E.base b + o else E.base i) = E.base i := fun i hi => if_neg (by omega)
  refine ⟨fun b' k hk => ?_, fun b' k i x hk hx => ?_, fun b' k hk => ?_, fun b' k hk hrw => ?_, fun b' k hk hrw b'' k'' hk'' hne hlive => ?_, hr.door, fun b' k hk hrw => ?_⟩
  · show (if b' = H.length then E.loc b else E.loc b') < _
    rcases look b' k hk with ⟨e, _⟩ | ⟨hl, k0, h0, _⟩
    · rw [if_pos e]; exact hr.lt b _ hb
    · rw [eL b' hl]; exact hr.lt b' k0 h0
  · rcases look b' k hk with ⟨e, e2⟩ | ⟨hl, k0, h0, h1, _⟩
    · subst e2
      rw [show (⟨cs.drop o, false⟩ : Blk).cells = cs.drop o from rfl, List.getElem?_drop] at hx
      obtain ⟨y, hy, hc⟩ := hr.cell b _ (o + i) x hb hx
      refine ⟨y, ?_, hc.mono (fun q hq => eL q hq) (fun q hq => ⟨eR q hq, eB q hq⟩) (by rw [hlen]; omega)⟩
      rw [← hy]
      show w.cell? ⟨if b' = H.length then E.loc b else E.loc b', (if b' = H.length then E.base b + o else E.base b') + i, none⟩ = w.cell? ⟨E.loc b, E.base b + (o + i), none⟩
      rw [if_pos e, if_pos e, Nat.add_assoc]
    · rw [h1] at hx
      obtain ⟨y, hy, hc⟩ := hr.cell b' k0 i x h0 hx
      refine ⟨y, ?_, hc.mono (fun q hq => eL q hq) (fun q hq => ⟨eR q hq, eB q hq⟩) (by rw [hlen]; omega)⟩
      rw [← hy]
      show w.cell? ⟨if b' = H.length then E.loc b else E.loc b', (if b' = H.length then E.base b + o else E.base b') + i, none⟩ = w.cell? ⟨E.loc b', E.base b' + i, none⟩
      rw [eL b' hl, eB b' hl]
  · show _ ≤ (if b' = H.length then E.room b - o else E.room b')
    rcases look b' k hk with ⟨e, e2⟩ | ⟨hl, k0, h0, h1, _⟩
    · have := hr.room b _ hb
      subst e2
      rw [if_pos e]
      show (cs.drop o).length ≤ _
      rw [List.length_drop]
      have h3 : cs.length ≤ E.room b := this
      omega
    · rw [eR b' hl, h1]; exact hr.room b' k0 h0
  · rcases look b' k hk with ⟨e, e2⟩ | ⟨hl, k0, h0, h1, h2⟩
    · subst e2; cases hrw
    · obtain ⟨h3, h4⟩ := hr.own b' k0 h0 (h2 hrw).1
      refine ⟨?_, ?_⟩
      · show (if b' = H.length then E.base b + o else E.base b') = 0
        rw [eB b' hl]; exact h3
      · show ∃ cs e, w.heap[if b' = H.length then E.loc b else E.loc b']? = some (.cells cs e (0, 0)) ∧ cs.size = if b' = H.length then E.room b - o else E.room b'
        rw [eL b' hl, eR b' hl]; exact h4
  · rcases look b' k hk with ⟨e, e2⟩ | ⟨hl, k0, h0, h1, h2⟩
    · subst e2; cases hrw
    · obtain ⟨h3, h4⟩ := h2 hrw
      show (if b'' = H.length then E.loc b else E.loc b'') ≠ (if b' = H.length then E.loc b else E.loc b')
      rw [eL b' hl]
      rcases look b'' k'' hk'' with ⟨e, e2⟩ | ⟨hl2, k2, h5, h6, h7⟩
      · rw [if_pos e]
        subst e2
        refine hr.sep b' k0 h0 h3 b _ hb (fun e => h4 e.symm) (.inr fun e => ?_)
        rcases hlive with h | h
        · cases h
        · refine h ?_
          have e' : cs = [] := e
          show cs.drop o = []
          rw [e', List.drop_nil]
      · rw [eL b'' hl2]
        refine hr.sep b' k0 h0 h3 b'' k2 h5 hne ?_
        rcases hlive with h | h
        · exact .inl (h7 h).1
        · exact .inr (h6 ▸ h)
  · rcases look b' k hk with ⟨e, e2⟩ | ⟨hl, k0, h0, h1, h2⟩
    · subst e2; cases hrw
    · show doorN ≤ (if b' = H.length then E.loc b else E.loc b')
      rw [eL b' hl]; exact hr.away b' k0 h0 (h2 hrw).1

theorem AC_view {P : Program} {f : FuncId} {args : List Value} {h H : List Blk} {c : Value} {b o n es : Nat} {cs : List Value} {r : Bool} (hc : isTup c = false) (hb : H[b]? = some ⟨cs, r⟩) (ho : o ≤ cs.length) (hA : AC P f args h (.tuple #[c, .slice (some ⟨b, o, none⟩) n es]) H) :
    AC P f args h (.tuple #[c, .slice (some ⟨H.length, 0, none⟩) n es]) (H.set b ⟨cs, false⟩ ++ ([⟨cs.drop o, false⟩] : List Blk)) := by
  have hbl : b < H.length := (List.getElem?_eq_some_iff.1 hb).1
  have hlen : (H.set b ⟨cs, false⟩ ++ ([⟨cs.drop o, false⟩] : List Blk)).length = H.length + 1 := by simp
  refine ⟨hA.1, fun E w args' hr hargs => ?_⟩
  refine Calls.mono (hA.2 E w args' hr hargs) ?_
  rintro e w' ⟨E', v', rfl, hv, hm, hl⟩
  have eL : ∀ i, i < H.length → (if i = H.length then E'.loc b else E'.loc i) = E'.loc i := fun i hi => if_neg (by omega)
  have eR : ∀ i, i < H.length → (if i = H.length then E'.room b - o else E'.room i) = E'.room i := fun i hi => if_neg (by omega)
  have eB : ∀ i, i < H.length → (if i = H.length then E'.base b + o else E'.base i) = E'.base i := fun i hi => if_neg (by omega)
  refine ⟨_, v', rfl, ?_, hm.view hb ho, ?_⟩
  · obtain ⟨us, rfl, h1, h2⟩ := hv
    refine ⟨us, rfl, h1, fun i x y hx hy => ?_⟩
    match i, hx with
    | 0, hx =>
      cases hx
      exact (h2 0 _ y rfl hy).mono (fun q hq => eL q hq) (fun q hq => ⟨eR q hq, eB q hq⟩) (by rw [hlen]; omega)
    | 1, hx =>
      cases hx
      obtain ⟨g1, g2, a', cap, g3, g4, g5⟩ : CR E' H.length (.slice (some ⟨b, o, none⟩) n es) y := h2 1 _ y rfl hy
      refine (⟨rfl, (by rw [hlen]; exact Nat.lt_succ_self _ : H.length < (H.set b ⟨cs, false⟩ ++ ([⟨cs.drop o, false⟩] : List Blk)).length), a', cap, g3, g4, ?_⟩ : CR _ (H.set b ⟨cs, false⟩ ++ ([⟨cs.drop o, false⟩] : List Blk)).length (.slice (some ⟨H.length, 0, none⟩) n es) y)
      rcases g5 with g5 | ⟨g5, g6⟩
      · exact .inl g5
      · refine .inr ⟨?_, ?_⟩
        · rw [g5]
          show (⟨E'.loc b, E'.base b + o, none⟩ : Addr) = ⟨if H.length = H.length then E'.loc b else _, (if H.length = H.length then E'.base b + o else _) + 0, none⟩
          rw [if_pos rfl, if_pos rfl]; rfl
        · show 0 + cap * es ≤ (if H.length = H.length then E'.room b - o else _)
          rw [if_pos rfl]
          have g6' : o + cap * es ≤ E'.room b := g6
          omega
    | i + 2, hx => exact absurd hx (by simp)
  · refine { hl with len := by rw [hlen]; have := hl.len; omega, loc := fun q hq => ?_, room := fun q hq => ?_, own := fun q k hk hrw => ?_ }
    · exact (eL q (Nat.lt_of_lt_of_le hq hl.len)).trans (hl.loc q hq)
    · have h3 := Nat.lt_of_lt_of_le hq hl.len
      exact ⟨(eR q h3).trans (hl.room q hq).1, (eB q h3).trans (hl.room q hq).2⟩
    · show w.heap.size ≤ (if q = H.length then E'.loc b else E'.loc q) ∨ ∃ b0 k0, h[b0]? = some k0 ∧ k0.rw = true ∧ E.loc b0 = (if q = H.length then E'.loc b else E'.loc q)
      rcases Nat.lt_or_ge q H.length with hq | hq
      · rw [eL q hq]
        rw [List.getElem?_append_left (by simpa using hq), List.getElem?_set] at hk
        by_cases e : b = q
        · rw [if_pos e, if_pos hbl] at hk
          cases hk; cases hrw
        · rw [if_neg e] at hk
          exact hl.own q k hk hrw
      · rw [List.getElem?_append_right (by simpa using hq), List.length_set] at hk
        obtain ⟨h1, h2⟩ := List.getElem?_eq_some_iff.1 hk
        have h3 : q - H.length = 0 := by simp at h1; omega
        simp [h3] at h2
        rw [← h2] at hrw
        cases hrw
end Go.Abs
