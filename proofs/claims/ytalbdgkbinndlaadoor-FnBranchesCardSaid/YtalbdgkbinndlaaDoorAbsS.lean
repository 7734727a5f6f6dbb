/- The abstract machine, part S: blocks numbered anew, and blocks of which less is known. Generic: no program in sight. -/
import Derived.Test.YtalbdgkbinndlaaDoorAbsR
namespace Go.Abs
set_option linter.unusedSimpArgs false
set_option linter.unusedVariables false
set_option maxRecDepth 20000
set_option maxHeartbeats 1000000

/-- Which old block a new one was: the first N are as they were; the i-th behind them was the (r i)-th. -/
def rhoF (N : Nat) (r : List Nat) (b : Nat) : Nat := if b < N then b else N + r.getD (b - N) 0

def renA (N : Nat) (r : List Nat) (a : Addr) : Addr := ⟨rhoF N r a.block, a.off, a.spot⟩
def renC (N : Nat) (r : List Nat) : Value → Value
  | .pointer (some a) => .pointer (some (renA N r a))
  | .slice (some a) l c => .slice (some (renA N r a)) l c
  | v => v
def ren1 (N : Nat) (r : List Nat) : Value → Value
  | .agg cs => .agg (cs.map (renC N r))
  | v => renC N r v
def renV (N : Nat) (r : List Nat) : Value → Value
  | .tuple vs => .tuple (vs.map (ren1 N r))
  | v => ren1 N r v

def Emb.ren (E : Emb) (N : Nat) (r : List Nat) : Emb := ⟨fun b => E.loc (rhoF N r b), fun b => E.room (rhoF N r b), fun b => E.base (rhoF N r b)⟩

theorem rhoF_old {N b : Nat} {r : List Nat} (h : b < N) : rhoF N r b = b := if_pos h
theorem rhoF_new (N i : Nat) (r : List Nat) : rhoF N r (N + i) = N + r.getD i 0 := by unfold rhoF; rw [if_neg (by omega)]; congr 2; omega
theorem rhoF_new0 (N : Nat) (r : List Nat) : rhoF N r N = N + r.getD 0 0 := rhoF_new N 0 r

section
variable {E : Emb} {N n n' : Nat} {r : List Nat}

theorem CR.ren {x y : Value} (h : CR E n (renC N r x) y) (hw : wfC n' x) : CR (E.ren N r) n' x y := by
  cases x with
  | pointer a =>
    cases a with
    | none => exact h
    | some a => exact ⟨h.1, hw, h.2.2⟩
  | slice a l c =>
    cases a with
    | none => exact h
    | some a =>
      obtain ⟨h1, _, a', cap, h3, h4, h5⟩ := h
      exact ⟨h1, hw, a', cap, h3, h4, h5⟩
  | chan c => cases c <;> exact h
  | _ => exact h

theorem VR1.ren {x y : Value} (h : VR1 E n (ren1 N r x) y) (hw : wf1 n' x) : VR1 (E.ren N r) n' x y := by
  cases x with
  | agg cs =>
    obtain ⟨ds, rfl, hd⟩ := h
    refine ⟨ds, rfl, ⟨by simpa using hd.1, fun i u v hu hv => ?_⟩⟩
    exact (hd.2 i (renC N r u) v (by simp [hu]) hv).ren (hw u (List.mem_of_getElem? hu))
  | chan c =>
    cases c with
    | none => trivial
    | some c => exact h
  | pointer a =>
    have h' : CR E n (renC N r (.pointer a)) y := by cases a <;> exact h
    exact h'.ren hw
  | slice a l c =>
    have h' : CR E n (renC N r (.slice a l c)) y := by cases a <;> exact h
    exact h'.ren hw
  | _ => exact h

theorem VR.ren {x y : Value} (h : VR E n (renV N r x) y) (hw : wfV n' x) : VR (E.ren N r) n' x y := by
  have one : VR1 E n (ren1 N r x) y → wf1 n' x → VR1 (E.ren N r) n' x y := VR1.ren
  cases x with
  | tuple vs =>
    obtain ⟨us, rfl, hd⟩ := h
    refine ⟨us, rfl, ⟨by simpa using hd.1, fun i u v hu hv => ?_⟩⟩
    exact (hd.2 i (ren1 N r u) v (by simp [hu]) hv).ren (hw u (List.mem_of_getElem? hu))
  | pointer a => exact one (by cases a <;> exact h) hw
  | slice a l c => exact one (by cases a <;> exact h) hw
  | _ => exact one h hw

theorem renC_old {x : Value} (h : wfC N x) : renC N r x = x := by
  cases x with
  | pointer a =>
    cases a with
    | none => rfl
    | some a => show Value.pointer (some (renA N r a)) = _; unfold renA; rw [rhoF_old h]
  | slice a l c =>
    cases a with
    | none => rfl
    | some a => show Value.slice (some (renA N r a)) l c = _; unfold renA; rw [rhoF_old h]
  | _ => rfl

theorem renC_plain {x : Value} (h : plainC x = true) : renC N r x = x := by
  cases x with
  | pointer a =>
    cases a with
    | none => rfl
    | some a => cases h
  | slice a l c =>
    cases a with
    | none => rfl
    | some a => cases h
  | _ => rfl

theorem renC_plains {l : List Value} (h : l.all plainC = true) : l.map (renC N r) = l := by
  conv => rhs; rw [← List.map_id l]
  exact List.map_congr_left fun x hx => renC_plain (List.all_eq_true.1 h x hx)

theorem ren1_plain {x : Value} (h : plain1 x = true) : ren1 N r x = x := by
  cases x with
  | agg cs =>
    show Value.agg (cs.map (renC N r)) = _
    congr 1
    apply Array.ext'
    rw [Array.toList_map]
    exact renC_plains h
  | pointer a =>
    cases a with
    | none => rfl
    | some a => cases h
  | slice a l c =>
    cases a with
    | none => rfl
    | some a => cases h
  | _ => rfl

theorem renV_plain {x : Value} (h : plainV x = true) : renV N r x = x := by
  cases x with
  | tuple vs =>
    show Value.tuple (vs.map (ren1 N r)) = _
    congr 1
    apply Array.ext'
    rw [Array.toList_map]
    conv => rhs; rw [← List.map_id vs.toList]
    exact List.map_congr_left fun x hx => ren1_plain (List.all_eq_true.1 h x hx)
  | pointer a =>
    cases a with
    | none => rfl
    | some a => cases h
  | slice a l c =>
    cases a with
    | none => rfl
    | some a => cases h
  | agg cs => exact ren1_plain (x := .agg cs) h
  | _ => rfl

/-- A block that is kept, with no more known of it than before. -/
def Fit (N : Nat) (r : List Nat) (n' : Nat) (k k' : Blk) : Prop := (∃ ds, k.cells = k'.cells.map (renC N r) ++ ds) ∧ (k'.rw = true → k.rw = true) ∧ ∀ c ∈ k'.cells, wfC n' c

theorem Fit_plain {k : Blk} (h : k.cells.all plainC = true) : Fit N r n' k k := ⟨⟨[], by rw [renC_plains h, List.append_nil]⟩, id, wf_plain h⟩
theorem Fit_eq {k : Blk} {cs : List Value} (h : cs.all plainC = true) (he : k.cells = cs) : Fit N r n' k ⟨cs, k.rw⟩ := ⟨⟨[], by rw [renC_plains h, List.append_nil, he]⟩, id, wf_plain h⟩
theorem Fit_dead {k : Blk} : Fit N r n' k dead := ⟨⟨k.cells, rfl⟩, (fun h => by cases h), fun c hc => by simp [dead] at hc⟩
theorem Fit_nil {k : Blk} (h : k.rw = true) : Fit N r n' k ⟨[], true⟩ := ⟨⟨k.cells, rfl⟩, fun _ => h, fun c hc => by simp at hc⟩
theorem Fit_ren {k k' : Blk} (h : k.cells = k'.cells.map (renC N r)) (hr : k'.rw = true → k.rw = true) (hw : ∀ c ∈ k'.cells, wfC n' c) : Fit N r n' k k' := ⟨⟨[], by rw [h, List.append_nil]⟩, hr, hw⟩

def gcOk (N : Nat) (r : List Nat) (n' : Nat) (L : List Blk) : List Nat → List Blk → Prop
  | [], [] => True
  | i :: is, k' :: ks => (∃ k, L[i]? = some k ∧ Fit N r n' k k') ∧ gcOk N r n' L is ks
  | _, _ => False

theorem gcOk_get {L : List Blk} : ∀ {is : List Nat} {ks : List Blk} {i : Nat} {k' : Blk}, gcOk N r n' L is ks → ks[i]? = some k' → ∃ k, L[is.getD i 0]? = some k ∧ Fit N r n' k k' ∧ i < is.length
  | [], [], i, k', _, h => by simp at h
  | j :: is, k1 :: ks, 0, k', h, hk => by
    simp at hk; subst hk
    obtain ⟨k, h1, h2⟩ := h.1
    exact ⟨k, by simpa using h1, h2, by simp⟩
  | j :: is, k1 :: ks, i + 1, k', h, hk => by
    obtain ⟨k, h1, h2, h3⟩ := gcOk_get h.2 (show ks[i]? = some k' by simpa using hk)
    exact ⟨k, by simpa using h1, h2, by simp; omega⟩
  | [], _ :: _, _, _, h, _ => h.elim
  | _ :: _, [], _, _, h, _ => h.elim

theorem HR.gc {H L L' : List Blk} {w : World} (hr : HR E (H ++ L) w) (hwf : WfH H) (hnd : r.Nodup) (hg : gcOk H.length r (H ++ L').length L r L') : HR (E.ren H.length r) (H ++ L') w := by
  have get : ∀ (b : Nat) (k' : Blk), (H ++ L')[b]? = some k' → ∃ k, (H ++ L)[rhoF H.length r b]? = some k ∧ Fit H.length r (H ++ L').length k k' := fun b k' hb => by
    rw [List.getElem?_append] at hb
    split at hb
    · rename_i hlt
      refine ⟨k', ?_, ⟨[], ?_⟩, id, fun c hc => (hwf b k' hb c hc).mono (by simp)⟩
      · rw [rhoF_old hlt, List.getElem?_append_left hlt]; exact hb
      · rw [List.append_nil]
        conv => lhs; rw [← List.map_id k'.cells]
        exact List.map_congr_left fun x hx => (renC_old (hwf b k' hb x hx)).symm
    · rename_i hge
      obtain ⟨k, h1, h2, _⟩ := gcOk_get hg hb
      refine ⟨k, ?_, h2⟩
      unfold rhoF
      rw [if_neg hge, List.getElem?_append_right (by omega)]
      rw [show H.length + r.getD (b - H.length) 0 - H.length = r.getD (b - H.length) 0 by omega]
      exact h1
  have inj : ∀ (b c : Nat) (k k' : Blk), (H ++ L')[b]? = some k → (H ++ L')[c]? = some k' → b ≠ c → rhoF H.length r b ≠ rhoF H.length r c := fun b c k k' hb hc hne => by
    have idx : ∀ (b : Nat) (k : Blk), (H ++ L')[b]? = some k → b < H.length ∨ (H.length ≤ b ∧ b - H.length < r.length) := fun b k hb => by
      rw [List.getElem?_append] at hb
      split at hb
      · rename_i h; exact .inl h
      · rename_i h; obtain ⟨_, _, _, h3⟩ := gcOk_get hg hb; exact .inr ⟨by omega, h3⟩
    unfold rhoF
    rcases idx b k hb with h1 | ⟨h1, h2⟩ <;> rcases idx c k' hc with h3 | ⟨h3, h4⟩
    · rw [if_pos h1, if_pos h3]; exact hne
    · rw [if_pos h1, if_neg (by omega)]; omega
    · rw [if_neg (by omega), if_pos h3]; omega
    · rw [if_neg (by omega), if_neg (by omega)]
      intro he
      have he' : r.getD (b - H.length) 0 = r.getD (c - H.length) 0 := by omega
      rw [List.getD_eq_getElem?_getD, List.getD_eq_getElem?_getD, List.getElem?_eq_getElem h2, List.getElem?_eq_getElem h4] at he'
      simp only [Option.getD_some] at he'
      rcases Nat.lt_trichotomy (b - H.length) (c - H.length) with h5 | h5 | h5
      · exact (List.pairwise_iff_getElem.1 hnd _ _ h2 h4 h5) he'
      · omega
      · exact (List.pairwise_iff_getElem.1 hnd _ _ h4 h2 h5) he'.symm
  refine ⟨fun b k hb => ?_, fun b k i x hb hx => ?_, fun b k hb => ?_, fun b k hb hk => ?_, fun b k hb hk c k' hc hne hlive => ?_, hr.door, fun b k hb hk => by obtain ⟨k0, h1, _, h3, _⟩ := get b k hb; exact hr.away _ k0 h1 (h3 hk)⟩
  · obtain ⟨k0, h1, _⟩ := get b k hb; exact hr.lt _ k0 h1
  · obtain ⟨k0, h1, ⟨ds, h2⟩, _, h4⟩ := get b k hb
    have hx' : k0.cells[i]? = some (renC H.length r x) := by
      rw [h2, List.getElem?_append_left (by simp; exact (List.getElem?_eq_some_iff.1 hx).1), List.getElem?_map, hx]; rfl
    obtain ⟨y, hy, hc⟩ := hr.cell _ k0 i _ h1 hx'
    exact ⟨y, hy, hc.ren (h4 x (List.mem_of_getElem? hx))⟩
  · obtain ⟨k0, h1, ⟨ds, h2⟩, _⟩ := get b k hb
    have := hr.room _ k0 h1
    have h3 : k.cells.length ≤ k0.cells.length := by rw [h2]; simp
    exact Nat.le_trans h3 this
  · obtain ⟨k0, h1, _, h3, _⟩ := get b k hb
    exact hr.own _ k0 h1 (h3 hk)
  · obtain ⟨k0, h1, _, h3, _⟩ := get b k hb
    obtain ⟨k1, h4, ⟨ds, h5⟩, h6, _⟩ := get c k' hc
    refine hr.sep _ k0 h1 (h3 hk) _ k1 h4 (inj c b k' k hc hb hne) ?_
    rcases hlive with h | h
    · exact .inl (h6 h)
    · refine .inr fun e => h ?_
      rw [h5] at e
      have := (List.append_eq_nil_iff.1 e).1
      simpa using this

/-- Slots given up, the others told anew. -/
def JR (N : Nat) (r : List Nat) (n' : Nat) : List Value → List Value → Prop
  | [], [] => True
  | a :: l, b :: l' => (b = J ∨ (a = renV N r b ∧ wfV n' b)) ∧ JR N r n' l l'
  | _, _ => False

theorem JR_nil : JR N r n' [] [] := trivial
theorem JR_J {a : Value} {l l' : List Value} (h : JR N r n' l l') : JR N r n' (a :: l) (J :: l') := ⟨.inl rfl, h⟩
theorem JR_plain {a : Value} {l l' : List Value} (hp : plainV a = true) (h : JR N r n' l l') : JR N r n' (a :: l) (a :: l') := ⟨.inr ⟨(renV_plain hp).symm, plainV_wf hp⟩, h⟩
theorem JR_plain' {a b : Value} {l l' : List Value} (hp : plainV b = true) (he : a = b) (h : JR N r n' l l') : JR N r n' (a :: l) (b :: l') := by subst he; exact JR_plain hp h
theorem JR_pt {a b o : Nat} {l l' : List Value} (he : a = rhoF N r b) (hw : b < n') (h : JR N r n' l l') : JR N r n' (pt a o :: l) (pt b o :: l') := ⟨.inr ⟨by rw [he]; rfl, hw⟩, h⟩
theorem JR_sl {a b o z m : Nat} {l l' : List Value} (he : a = rhoF N r b) (hw : b < n') (h : JR N r n' l l') : JR N r n' (sl a o m z :: l) (sl b o m z :: l') := ⟨.inr ⟨by rw [he]; rfl, hw⟩, h⟩
theorem JR_sl' {a b o z m m' : Nat} {l l' : List Value} (he : a = rhoF N r b) (hw : b < n') (hm : m = m') (h : JR N r n' l l') : JR N r n' (sl a o m z :: l) (sl b o m' z :: l') := hm ▸ JR_sl he hw h

theorem JR_sound : ∀ {l l' ys : List Value}, JR N r n' l l' → P2 (VR E n) l ys → P2 (VR (E.ren N r) n') l' ys
  | [], [], ys, _, h => ⟨h.1, fun i x y hx => by simp at hx⟩
  | _ :: l, b :: l', [], _, h => by have := h.1; simp at this
  | a :: l, b :: l', y :: ys, hj, h => by
    have h0 := h.2 0 a y rfl rfl
    have ht : P2 (VR E n) l ys := ⟨by have := h.1; simpa using this, fun i x z hx hz => h.2 (i + 1) x z hx hz⟩
    refine P2.cons ?_ (JR_sound hj.2 ht)
    rcases hj.1 with rfl | ⟨rfl, hw⟩
    · exact VR.junk
    · exact h0.ren hw
  | [], _ :: _, _, hj, _ => hj.elim
  | _ :: _, [], _, hj, _ => hj.elim

/-- Blocks numbered anew. -/
theorem Drop_gc {m : Nat} (r : List Nat) {t t' : List Value} {H L L' : List Blk} (hm : m ≤ H.length) (hwf : WfH H) (hnd : r.Nodup) (hg : gcOk H.length r (H ++ L').length L r L') (hj : JR H.length r (H ++ L').length t t') : Drop m ⟨t, H ++ L⟩ ⟨t', H ++ L'⟩ :=
  ⟨fun E a w hs => by
    refine ⟨E.ren H.length r, ⟨hs.mem.gc hwf hnd hg, JR_sound hj hs.tmps, hs.defers⟩, fun b hb => ?_, fun b k hb hk => ?_⟩
    · have : rhoF H.length r b = b := rhoF_old (by omega)
      simp only [Emb.ren, this, and_self]
    · rw [List.getElem?_append] at hb
      split at hb
      · rename_i hlt
        exact ⟨b, k, by rw [List.getElem?_append_left hlt]; exact hb, hk, by simp only [Emb.ren, rhoF_old hlt]⟩
      · rename_i hge
        obtain ⟨k0, h1, ⟨_, h3, _⟩, _⟩ := gcOk_get hg hb
        refine ⟨rhoF H.length r b, k0, ?_, h3 hk, rfl⟩
        unfold rhoF
        rw [if_neg hge, List.getElem?_append_right (by omega), show H.length + r.getD (b - H.length) 0 - H.length = r.getD (b - H.length) 0 by omega]
        exact h1, by simp; omega⟩

/-- What a function leaves, numbered anew. -/
theorem AC_gc {P : Program} {f : FuncId} {args : List Value} {H L L' : List Blk} {v v' : Value} (r : List Nat) (h : AC P f args H v (H ++ L)) (hnd : r.Nodup) (hg : gcOk H.length r (H ++ L').length L r L') (hv : v = renV H.length r v') (hw : wfV (H ++ L').length v') : AC P f args H v' (H ++ L') :=
  ⟨h.1, fun E w args' hr hargs => (h.2 E w args' hr hargs).mono fun e w' ⟨E', u, he, h1, h2, h3⟩ => by
    subst hv
    refine ⟨E'.ren H.length r, u, he, h1.ren hw, h2.gc hr.wf hnd hg, ?_⟩
    have h4 := h3.toN (Nat.le_refl _)
    have same : ∀ b, b < H.length → rhoF H.length r b = b := fun b hb => rhoF_old hb
    refine ⟨by simp, fun b hb => ?_, fun b hb => ?_, h4.size, h4.os, h4.tape, h4.output, h4.frame, fun b k hb hk => ?_⟩
    · show E'.loc (rhoF H.length r b) = _; rw [same b hb]; exact h4.loc b hb
    · show E'.room (rhoF H.length r b) = _ ∧ E'.base (rhoF H.length r b) = _; rw [same b hb]; exact h4.room b hb
    · rw [List.getElem?_append] at hb
      split at hb
      · rename_i hlt
        have := h4.own b k (by rw [List.getElem?_append_left hlt]; exact hb) hk
        simpa only [Emb.ren, same b hlt] using this
      · rename_i hge
        obtain ⟨k0, h5, ⟨_, h6, _⟩, _⟩ := gcOk_get hg hb
        refine h4.own (rhoF H.length r b) k0 ?_ (h6 hk)
        unfold rhoF
        rw [if_neg hge, List.getElem?_append_right (by omega), show H.length + r.getD (b - H.length) 0 - H.length = r.getD (b - H.length) 0 by omega]
        exact h5⟩
theorem renV_sl {a b o m z : Nat} (h : a = rhoF N r b) : sl a o m z = renV N r (sl b o m z) := by subst h; rfl
theorem renV_pt {a b o : Nat} (h : a = rhoF N r b) : pt a o = renV N r (pt b o) := by subst h; rfl
theorem ren1_sl {a b o m z : Nat} (h : a = rhoF N r b) : sl a o m z = ren1 N r (sl b o m z) := by subst h; rfl
theorem renV_two {a b a' b' : Value} (ha : a = ren1 N r a') (hb : b = ren1 N r b') : Value.tuple #[a, b] = renV N r (.tuple #[a', b']) := by subst ha hb; simp [renV]
theorem wfV_two {a b : Value} (ha : wf1 n a) (hb : wf1 n b) : wfV n (.tuple #[a, b]) := fun v hv => by
  have : v = a ∨ v = b := by simpa using hv
  rcases this with rfl | rfl <;> assumption
theorem blt {H : List Blk} {b : Nat} {k : Blk} (h : H[b]? = some k) : b < H.length := (List.getElem?_eq_some_iff.1 h).1
end
end Go.Abs
