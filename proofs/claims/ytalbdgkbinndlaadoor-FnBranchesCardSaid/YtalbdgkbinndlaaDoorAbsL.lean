/- The abstract machine, part L: from a contract over memory that is not ours to the form of the given statements 'whatever the input: true; each argument reads as it did'. Generic: no program in sight. -/
import Derived.Test.YtalbdgkbinndlaaDoorAbsF
import Derived.ProofKit
import Derived.OpenShut
import Derived.ShutString
import Derived.ChangeOld
import Derived.Below
import Derived.Deep.Slices
import GoSem.ClaimJoined
import Derived.JoinedOf
import Derived.Handed
import Derived.HandedShaped
namespace Go.Abs
set_option linter.unusedSimpArgs false
set_option linter.unusedVariables false
set_option maxRecDepth 20000
set_option maxHeartbeats 1000000
open Go.ChangeShapes Go.WideShapes Go.ChangeAt Go.RowKit

theorem CK.fits_plain {k : CK} {v : Value} (h : k.fits v) : plainC v = true := by
  cases k
  · obtain ⟨n, rfl, _⟩ := h; rfl
  · obtain ⟨n, rfl⟩ := h; rfl
  · obtain ⟨n, rfl, _⟩ := h; rfl

def Fits (ks : List CK) (cs : List Value) : Prop := cs.length = ks.length ∧ ∀ (i : Nat) (k : CK) (v : Value), ks[i]? = some k → cs[i]? = some v → k.fits v

theorem Fits.nil : Fits [] [] := ⟨rfl, fun i k v h => by simp at h⟩

theorem Fits.append {ks ks' : List CK} {cs cs' : List Value} (h : Fits ks cs) (h' : Fits ks' cs') : Fits (ks ++ ks') (cs ++ cs') := by
  refine ⟨by simp [h.1, h'.1], fun i k v hk hv => ?_⟩
  rw [List.getElem?_append] at hk hv
  by_cases hi : i < ks.length
  · rw [if_pos hi] at hk
    rw [if_pos (h.1 ▸ hi)] at hv
    exact h.2 i k v hk hv
  · rw [if_neg hi] at hk
    rw [if_neg (h.1 ▸ hi), h.1] at hv
    exact h'.2 _ k v hk hv

theorem Fits.single {k : CK} {v : Value} (h : k.fits v) : Fits [k] [v] := ⟨rfl, fun i k' v' hk hv => by
  cases i with
  | zero => simp at hk hv; subst hk hv; exact h
  | succ i => simp at hk⟩

theorem Fits.plain {ks : List CK} {cs : List Value} (h : Fits ks cs) : cs.all plainC = true := by
  rw [List.all_eq_true]
  intro v hv
  obtain ⟨i, hi⟩ := List.getElem?_of_mem hv
  have hl : i < ks.length := by rw [← h.1]; exact (List.getElem?_eq_some_iff.1 hi).1
  exact CK.fits_plain (h.2 i _ v (List.getElem?_eq_getElem hl) hi)

/-- Cells that fit chunk by chunk. -/
theorem Fits.chunks {ks : List CK} {z : Nat} (hz : ks.length = z) : ∀ (n : Nat) (cs : List Value), cs.length = n * z → (∀ i, i < n → Fits ks ((cs.drop (i * z)).take z)) → Fits (List.replicate n ks).flatten cs
  | 0, cs, hl, _ => by
    have : cs = [] := List.eq_nil_of_length_eq_zero (by simpa using hl)
    subst this; exact Fits.nil
  | n + 1, cs, hl, h => by
    rw [List.replicate_succ, List.flatten_cons, ← List.take_append_drop z cs]
    refine Fits.append (by simpa using h 0 (by omega)) (Fits.chunks hz n _ (by rw [List.length_drop, hl, Nat.add_mul]; omega) fun i hi => ?_)
    have := h (i + 1) (by omega)
    rw [List.drop_drop]
    rwa [Nat.add_mul, Nat.one_mul, Nat.add_comm] at this

section
variable {H : Type} {enc : TypeId × Value → H} {P : Program} {w : World} {base : Nat} {spare : Nat → Bool} {held : Bool}

theorem trod_fits : ∀ (d : Nat) (t : TypeId) (ks : List CK), kinds P d t = some ks → ∀ (fuel : Nat) (cs : List Value) (x : DataW H × List MemPlace), DataW.trod enc P w base spare held fuel t cs = some x → Fits ks cs
  | 0, _, _, hk, _, _, _, _ => by cases hk
  | d + 1, t, ks, hk, fuel, cs, x, hx => by
    unfold kinds at hk
    split at hk
    · rename_i hu
      cases hk
      cases fuel with
      | zero => simp [DataW.trod] at hx
      | succ n =>
        unfold DataW.trod at hx
        simp only [hu] at hx
        split at hx <;> simp_all
        rename_i b _
        exact Fits.single ⟨_, rfl⟩
    · rename_i k hu
      cases hk
      cases fuel with
      | zero => simp [DataW.trod] at hx
      | succ n =>
        unfold DataW.trod at hx
        simp only [hu] at hx
        split at hx <;> simp_all
        exact Fits.single ⟨_, rfl, hx.1.2⟩
    · rename_i hu
      cases hk
      cases fuel with
      | zero => simp [DataW.trod] at hx
      | succ n =>
        unfold DataW.trod at hx
        simp only [hu] at hx
        split at hx <;> simp_all
        exact Fits.single ⟨_, rfl, hx.1⟩
    · rename_i n e hu
      cases he : kinds P d e with
      | none => simp [he] at hk
      | some ks' =>
        simp only [he, Option.bind_some] at hk
        split at hk
        · rename_i hc
          cases hk
          obtain ⟨xs, m, _, _, hl, hxl, hxs⟩ := DataW.trod_array hu hx
          refine Fits.chunks hc.1 n cs (by rw [hl, hc.2]) fun i hi => ?_
          have h1 := hxs i hi
          rw [List.getElem?_eq_getElem (by omega)] at h1
          exact trod_fits d e ks' he m _ _ h1
        · cases hk
    · rename_i fs hu
      obtain ⟨ks', hks, hk⟩ := Option.bind_eq_some_iff.1 hk
      split at hk
      · rename_i hl
        cases hk
        obtain ⟨xs, m, _, _, hl', hxl, hxs⟩ := DataW.trod_struct hu hx
        have key : ∀ (l : List Field) (o : Nat) (ks : List CK), fieldKinds P (kinds P d) o l = some ks → (∀ f ∈ l, ∃ y, DataW.trod enc P w base spare held m f.type ((cs.drop f.offset).take (P.cellsOf f.type)) = some y) →
            o + ks.length ≤ cs.length → Fits ks ((cs.drop o).take ks.length) := by
          intro l
          induction l with
          | nil => intro o ks h _ _; cases h; simpa using Fits.nil
          | cons f l ih =>
            intro o ks h hf hle
            unfold fieldKinds at h
            obtain ⟨k1, h1, h2⟩ := Option.bind_eq_some_iff.1 h
            split at h2
            · rename_i hc
              obtain ⟨k2, h3, rfl⟩ := Option.map_eq_some_iff.1 h2
              obtain ⟨y, hy⟩ := hf f (List.mem_cons_self ..)
              have f1 := trod_fits d f.type k1 h1 m _ _ hy
              rw [hc.1, ← hc.2] at f1
              have f2 := ih (o + k1.length) k2 h3 (fun g hg => hf g (List.mem_cons_of_mem _ hg)) (by simp at hle; omega)
              have := f1.append f2
              rw [← List.drop_drop, ← List.take_add] at this
              rwa [List.length_append]
            · cases h2
        have := key fs.toList 0 ks hks (fun f hf => by
          obtain ⟨i, hi⟩ := List.getElem?_of_mem hf
          have hi' : fs[i]? = some f := by simpa using hi
          have h1 := hxs i f hi'
          have : i < xs.length := by rw [hxl]; exact (Array.getElem?_eq_some_iff.1 hi').1
          rw [List.getElem?_eq_getElem this] at h1
          exact ⟨_, h1⟩) (by omega)
        rw [List.drop_zero, List.take_of_length_le (by omega)] at this
        exact this
      · cases hk
    · cases hk

end

/-- Which types an argument may have here. -/
def argTy (P : Program) (t : TypeId) : Bool :=
  P.readableRec t && decide (t < P.types.size) &&
  match P.underlying t with
  | some (.slice e) => match kinds P 8 e with
    | some ks => decide (ks.length = P.cellsOf e)
    | none => false
  | some (.struct _) | some (.array _ _) => (kinds P 8 t).isSome
  | some .bool | some (.int _) | some .string => true
  | _ => false

/-- The arguments, as the abstract machine sees them. 'n': the number of the next block. -/
inductive ArgsU (P : Program) : Nat → List TypeId → List Value → List Blk → Prop
  | nil (n : Nat) : ArgsU P n [] [] []
  | agg {n : Nat} {t : TypeId} {ts : List TypeId} {us : List Value} {bl : List Blk} {cs : Array Value} {ks : List CK} (hu : tagg P t = some true) (hk : kinds P 8 t = some ks) (hf : Fits ks cs.toList) (rest : ArgsU P n ts us bl) : ArgsU P n (t :: ts) (.agg cs :: us) bl
  | cell {n : Nat} {t : TypeId} {ts : List TypeId} {us : List Value} {bl : List Blk} {u : Value} {k : CK} (hk : kinds P 8 t = some [k]) (hu : tagg P t = some false) (hf : k.fits u) (rest : ArgsU P n ts us bl) : ArgsU P n (t :: ts) (u :: us) bl
  | nils {n : Nat} {t e : TypeId} {ts : List TypeId} {us : List Value} {bl : List Blk} (hu : P.underlying t = some (.slice e)) (rest : ArgsU P n ts us bl) : ArgsU P n (t :: ts) (.slice none 0 0 :: us) bl
  | slice {n : Nat} {t e : TypeId} {ts : List TypeId} {us : List Value} {bl : List Blk} {ks : List CK} {len : Nat} {cs : List Value} (hu : P.underlying t = some (.slice e)) (hk : kinds P 8 e = some ks) (hl : len ≤ maxLen) (hf : Fits (List.replicate len ks).flatten cs)
      (rest : ArgsU P (n + 1) ts us bl) : ArgsU P n (t :: ts) (.slice (some ⟨n, 0, none⟩) len ks.length :: us) (⟨cs, false⟩ :: bl)

section
variable {H : Type} {enc : TypeId × Value → H} {P : Program}

theorem trodAll_length {w : World} {base : Nat} {spare : Nat → Bool} {held : Bool} : ∀ {ts : List TypeId} {vs : List Value} {ds : List (DataW H)} {ps : List MemPlace}, DataW.TrodAll enc P w base spare held ts vs ds ps → ds.length = ts.length
  | [], [], [], _, _ => rfl
  | t :: ts, v :: vs, d :: ds, ps, ⟨_, _, _, h, _⟩ => by simp [trodAll_length h]
  | [], _ :: _, _, _, h => h.elim
  | [], [], _ :: _, _, h => h.elim
  | _ :: _, [], _, _, h => h.elim
  | _ :: _, _ :: _, [], _, h => h.elim

theorem trodAll_below (hl : laidOutB P = true) {W W' : World} (hb : Below W.heap.size W W') : ∀ {ts : List TypeId} {vs : List Value} {ds : List (DataW H)} {ps : List MemPlace}, ts.all (argTy P) = true →
    DataW.TrodAll enc P W 0 (fun _ => true) true ts vs ds ps → DataW.TrodAll enc P W' 0 (fun b => decide (b < W.heap.size)) true ts vs ds ps
  | [], [], [], _, _, h => h
  | t :: ts, v :: vs, d :: ds, ps, ht, ⟨p, q, h1, h2, e⟩ => by
    simp only [List.all_cons, Bool.and_eq_true] at ht
    have h0 := ht.1
    unfold argTy at h0
    simp only [Bool.and_eq_true, decide_eq_true_eq] at h0
    refine ⟨p, q, Below.trod hl h0.1.1 h0.1.2 h1 hb ?_, trodAll_below hl hb ht.2 h2, e⟩
    obtain ⟨m, hm⟩ := h1
    exact DataW.trod_lt m _ _ _ hm
  | [], _ :: _, _, _, _, h => h.elim
  | [], [], _ :: _, _, _, h => h.elim
  | _ :: _, [], _, _, _, h => h.elim
  | _ :: _, _ :: _, [], _, _, h => h.elim

theorem okWide_agg {w : World} {r : Reach} {b0 : Nat} {t : TypeId} {v : Value} (hu : tagg P t = some true) (h : Value.okWide P w r b0 t v) : ∃ cs, v = .agg cs := by
  unfold tagg at hu
  unfold Value.okWide at h
  split at h
  · obtain ⟨cs, h, _⟩ := h; exact ⟨cs, h⟩
  · obtain ⟨cs, h, _⟩ := h; exact ⟨cs, h⟩
  · rename_i h1 h2
    cases hp : P.underlying t with
    | none => simp [hp] at hu
    | some d => cases d <;> simp_all

theorem okWide_cell {w : World} {r : Reach} {b0 : Nat} {t : TypeId} {v : Value} (hu : P.underlying t = some .bool ∨ (∃ k, P.underlying t = some (.int k)) ∨ P.underlying t = some .string) (h : Value.okWide P w r b0 t v) : v.cells = #[v] := by
  rcases hu with hu | ⟨k, hu⟩ | hu <;> cases v <;> simp_all [Value.okWide, Cell.okWide, Cell.ok, Value.cells]

theorem has_lt {w : World} {r : Reach} {b0 : Nat} {a : Addr} {e : TypeId} {n : Nat} (h : w.has P r b0 a e n) : a.spot = none ∧ a.block < w.heap.size := by
  obtain ⟨_, h1, row, cells, h2, _⟩ := h
  refine ⟨h1, ?_⟩
  unfold World.shape? at h2
  rcases Nat.lt_or_ge a.block w.heap.size with h3 | h3
  · exact h3
  · rw [Array.getElem?_eq_none h3] at h2; simp at h2

/-- What the abstract machine sees of arguments, and where its blocks lie. -/
def Opened (P : Program) (W : World) (n : Nat) (ts : List TypeId) (vs : List Value) : Prop :=
  ∃ (us : List Value) (bl : List Blk) (L : List (Nat × Nat × Nat)), ArgsU P n ts us bl ∧ L.length = bl.length ∧
    (∀ E : Emb, (∀ (i : Nat) (l : Nat × Nat × Nat), L[i]? = some l → E.loc (n + i) = l.1 ∧ E.base (n + i) = l.2.1 ∧ E.room (n + i) = l.2.2) → ∀ m, n + bl.length ≤ m → P2 (VR E m) us vs) ∧
    (∀ (i : Nat) (k : Blk) (l : Nat × Nat × Nat), bl[i]? = some k → L[i]? = some l → l.1 < W.heap.size ∧ k.rw = false ∧ k.cells.length ≤ l.2.2 ∧ ∀ (j : Nat) (x : Value), k.cells[j]? = some x → W.cell? ⟨l.1, l.2.1 + j, none⟩ = some x ∧ plainC x = true)

/-- The arguments opened: what the abstract machine sees of them, and where its blocks lie. -/
theorem args_open {W : World} {b0 : Nat} : ∀ {ts : List TypeId} {vs : List Value} {ds : List (DataW H)} {ps : List MemPlace} (n : Nat), ts.all (argTy P) = true →
    (∀ (j : Nat) (t : TypeId) (v : Value), ts[j]? = some t → vs[j]? = some v → Value.okWide P W .any b0 t v) → DataW.TrodAll enc P W 0 (fun _ => true) true ts vs ds ps →
    Opened P W n ts vs
  | [], [], [], _, n, _, _, _ => ⟨[], [], [], .nil n, rfl, fun _ _ _ _ => P2.nil, fun i k l h => by simp at h⟩
  | t :: ts, v :: vs, d :: ds, ps, n, ht, hval, ⟨p, q, h1, h2, e⟩ => by
    simp only [List.all_cons, Bool.and_eq_true] at ht
    have h0 := ht.1
    unfold argTy at h0
    simp only [Bool.and_eq_true, decide_eq_true_eq] at h0
    have hv := hval 0 t v rfl rfl
    have hval' : ∀ (j : Nat) (t : TypeId) (v : Value), ts[j]? = some t → vs[j]? = some v → Value.okWide P W .any b0 t v := fun j t v h3 h4 => hval (j + 1) t v (by simpa using h3) (by simpa using h4)
    have agg : tagg P t = some true → (kinds P 8 t).isSome = true → Opened P W n (t :: ts) (v :: vs) := fun hag hks => by
      obtain ⟨us, bl, L, r1, r2, r3, r4⟩ := args_open n ht.2 hval' h2
      obtain ⟨ks, hks⟩ := Option.isSome_iff_exists.1 hks
      obtain ⟨cs, rfl⟩ := okWide_agg hag hv
      obtain ⟨fuel, hf⟩ := h1
      have hfit : Fits ks cs.toList := trod_fits 8 t ks hks fuel _ _ hf
      exact ⟨.agg cs :: us, bl, L, .agg hag hks hfit r1, r2, fun E hE m hm => P2.cons (VR.of_plain (by simpa [plainV, plain1] using hfit.plain)) (r3 E hE m hm), r4⟩
    have cell : ∀ k : CK, (P.underlying t = some .bool ∨ (∃ k, P.underlying t = some (.int k)) ∨ P.underlying t = some .string) → kinds P 8 t = some [k] → Opened P W n (t :: ts) (v :: vs) := fun k hu hks => by
      obtain ⟨us, bl, L, r1, r2, r3, r4⟩ := args_open n ht.2 hval' h2
      obtain ⟨fuel, hf⟩ := h1
      have hc := okWide_cell hu hv
      have hfit : Fits [k] v.cells.toList := trod_fits 8 t [k] hks fuel _ _ hf
      rw [hc] at hfit
      have hk := hfit.2 0 k v rfl rfl
      have hp := CK.fits_plain hk
      have hag : tagg P t = some false := by rcases hu with hu | ⟨k, hu⟩ | hu <;> simp [tagg, hu]
      exact ⟨v :: us, bl, L, .cell hks hag hk r1, r2, fun E hE m hm => P2.cons (VR.of_plain (by cases v <;> first | exact hp | cases hp)) (r3 E hE m hm), r4⟩
    have h3 := h0.2
    split at h3
    · rename_i el hu
      split at h3
      · rename_i ks hks
        have hz : ks.length = P.cellsOf el := of_decide_eq_true h3
        obtain ⟨fuel, hf⟩ := h1
        obtain ⟨a0, len0, cap0, rfl⟩ := okWide_slice hu hv
        rcases Deep.open_slice hu hf with ⟨hcs, _⟩ | ⟨a, len, cap, m, n', D, Pl, hcs, _, hl, hm, hmm, _, hx⟩
        · simp [Value.cells] at hcs
          obtain ⟨rfl, rfl, rfl⟩ := hcs
          obtain ⟨us, bl, L, r1, r2, r3, r4⟩ := args_open n ht.2 hval' h2
          exact ⟨_, bl, L, .nils hu r1, r2, fun E hE m hm => P2.cons (VR.of_plain rfl) (r3 E hE m hm), r4⟩
        · simp [Value.cells] at hcs
          obtain ⟨rfl, rfl, rfl⟩ := hcs
          obtain ⟨us, bl, L, r1, r2, r3, r4⟩ := args_open (n + 1) ht.2 hval' h2
          have hhas : a.spot = none ∧ a.block < W.heap.size := by
            unfold Value.okWide Cell.okWide at hv
            simp only [hu, Cell.ok] at hv
            exact has_lt hv.2.2
          obtain ⟨ab, ao, asp⟩ := a
          obtain ⟨hsp, hlt⟩ := hhas
          simp only at hsp hlt
          subst hsp
          simp only [if_true] at hmm
          rw [hmm] at hx
          clear hmm
          obtain ⟨C, hC⟩ := Deep.choose_lt (α := List Value) (p := fun i cs' => W.cells? 0 (Addr.add ⟨ab, ao, none⟩ (i * P.cellsOf el)) (P.cellsOf el) = some cs' ∧ Fits ks cs') fun i (hi : i < len0) => by
            obtain ⟨cs', h4, h5⟩ := hx i (by omega)
            exact ⟨cs', h4, trod_fits 8 el ks hks _ _ _ h5⟩
          have hCl : ∀ i, i < len0 → (C i).length = ks.length := fun i hi => (hC i hi).2.1
          let cs : List Value := ((List.range len0).map C).flatten
          have hfit : ∀ k, k ≤ len0 → Fits (List.replicate k ks).flatten ((List.range k).map C).flatten := by
            intro k
            induction k with
            | zero => intro _; exact Fits.nil
            | succ k ih =>
              intro hk
              rw [List.replicate_succ', List.range_succ, List.map_append, List.flatten_append, List.flatten_append]
              exact (ih (by omega)).append (by simpa using (hC k (by omega)).2)
          have hcell : ∀ k, k ≤ len0 → ∀ j x, ((List.range k).map C).flatten[j]? = some x → W.cell? ⟨ab, ao + j, none⟩ = some x := by
            intro k
            induction k with
            | zero => intro _ j x hj; simp at hj
            | succ k ih =>
              intro hk j x hj
              rw [List.range_succ, List.map_append, List.flatten_append, List.getElem?_append] at hj
              have hlen : ((List.range k).map C).flatten.length = k * ks.length := by
                have := (hfit k (by omega)).1; rw [this]; simp
              rw [hlen] at hj
              split at hj
              · rename_i hlt'
                exact ih (by omega) j x (by rw [hj])
              · rename_i hge
                obtain ⟨_, _, h6⟩ := World.cells?_some (hC k (by omega)).1
                simp only [List.map_cons, List.map_nil, List.flatten_cons, List.flatten_nil, List.append_nil] at hj
                have hjl : j - k * ks.length < P.cellsOf el := by have h8 := (List.getElem?_eq_some_iff.1 hj).1; rw [hCl k (by omega)] at h8; omega
                have h7 := h6 (j - k * ks.length) hjl
                rw [hj, add_off, add_off, ← hz] at h7
                rw [← h7]
                congr 2
                omega
          refine ⟨.slice (some ⟨n, 0, none⟩) len0 ks.length :: us, ⟨cs, false⟩ :: bl, (ab, ao, cap0 * ks.length) :: L, .slice hu hks (by omega) (hfit len0 (Nat.le_refl _)) r1, by simp [r2], fun E hE m hm => P2.cons ?_ (r3 E ?_ m (by simp at hm; omega)), fun i k l hk hl' => ?_⟩
          · obtain ⟨e1, e2, e3⟩ := hE 0 _ rfl
            simp only [Nat.add_zero] at e1 e2 e3
            exact ⟨rfl, by simp at hm; simp only; omega, _, cap0, rfl, hl, .inr ⟨by simp [Emb.at, e1, e2], by simp [e3]⟩⟩
          · intro i l hi
            have := hE (i + 1) l (by simpa using hi)
            rw [show n + (i + 1) = n + 1 + i by omega] at this
            exact this
          · cases i with
            | zero =>
              simp at hk hl'
              subst hk hl'
              have hlen : cs.length = len0 * ks.length := by have := (hfit len0 (Nat.le_refl _)).1; rw [this]; simp
              refine ⟨hlt, rfl, by simp only [hlen]; exact Nat.mul_le_mul_right _ hl, fun j x hj => ⟨hcell len0 (Nat.le_refl _) j x hj, ?_⟩⟩
              exact List.all_eq_true.1 (hfit len0 (Nat.le_refl _)).plain _ (List.mem_of_getElem? hj)
            | succ i => exact r4 i k l (by simpa using hk) (by simpa using hl')
      · cases h3
    · rename_i fs hu
      exact agg (by simp [tagg, hu]) h3
    · rename_i k el hu
      exact agg (by simp [tagg, hu]) h3
    · rename_i hu
      exact cell .bool (.inl hu) (by simp [kinds, hu])
    · rename_i k hu
      exact cell (.int k) (.inr (.inl ⟨k, hu⟩)) (by simp [kinds, hu])
    · rename_i hu
      exact cell .str (.inr (.inr hu)) (by simp [kinds, hu])
    · cases h3
  | [], _ :: _, _, _, _, _, _, h => h.elim
  | [], [], _ :: _, _, _, _, _, h => h.elim
  | _ :: _, [], _, _, _, _, _, h => h.elim
  | _ :: _, _ :: _, [], _, _, _, _, h => h.elim
end

/-- What memory looks like that is not ours: after a call nothing of it has changed. -/
theorem Link.below {E E' : Emb} {h h' : List Blk} {w w' : World} (hl : Link E h w E' h' w') (hro : ∀ (b : Nat) (k : Blk), h[b]? = some k → k.rw = false) : Below w.heap.size w w' :=
  ⟨hl.os, hl.tape, hl.output, hl.size, fun i hi => hl.frame i hi fun b k hb hk => by rw [hro b k hb] at hk; cases hk⟩

/-- From a contract to what the form of the given statements asks of one call. -/
theorem frame_core {H : Type} {enc : TypeId × Value → H} {C : Checked} {f : FuncId} {fn : Func} {s : ChangeSpec} {tb : TypeId} (laid : laidOutB C.prog = true)
    (hvars : s.vars = []) (hspec : ∀ ds : List (DataW H), ds.length = fn.params.toList.length → s.fn H (ds ++ []) = { results := [.lit (.bool true)], args := ds })
    (hres : fn.resultTypes = #[tb]) (htb : C.prog.underlying tb = some .bool) (hty : fn.params.toList.all (argTy C.prog) = true)
    (ac : ∀ us bl, ArgsU C.prog 0 fn.params.toList us bl → AC C.prog f us bl (.bool true) bl)
    (W : World) (base : Nat) (args : Array Value) (ds gs : List (DataW H)) (before : List MemPlace) (hd : doorOk W)
    (hval : ∀ (j : Nat) t v, fn.params[j]? = some t → args[j]? = some v → Value.okWide C.prog W .any base t v)
    (hW : DataW.Whole enc C.prog fn.params.toList s.vars false W args.toList ds gs before) :
    Calls C.prog f args W fun e W' => ∃ v, e = .returned v ∧ s.post enc C.prog fn false true false false W args v W' := by
  have hW' := hW
  obtain ⟨p, q, hA, hV, rfl, _, _⟩ := hW
  rw [hvars] at hV
  obtain ⟨rfl, rfl⟩ := trodVars_none hV
  obtain ⟨us, bl, L, r1, r2, r3, r4⟩ := args_open 0 hty (fun j t v h1 h2 => hval j t v (by simpa using h1) (by simpa using h2)) hA
  have hro : ∀ (b : Nat) (k : Blk), bl[b]? = some k → k.rw = false := fun b k hb => by
    have hb' : b < L.length := by rw [r2]; exact (List.getElem?_eq_some_iff.1 hb).1
    exact (r4 b k _ hb (List.getElem?_eq_getElem hb')).2.1
  let E : Emb := ⟨fun b => ((L[b]?).getD (0, 0, 0)).1, fun b => ((L[b]?).getD (0, 0, 0)).2.2, fun b => ((L[b]?).getD (0, 0, 0)).2.1⟩
  have hr : HR E bl W := by
    have get : ∀ (b : Nat) (k : Blk), bl[b]? = some k → ∃ l, L[b]? = some l := fun b k hb => by
      have hb' : b < L.length := by rw [r2]; exact (List.getElem?_eq_some_iff.1 hb).1
      exact ⟨_, List.getElem?_eq_getElem hb'⟩
    refine ⟨fun b k hb => ?_, fun b k i x hb hx => ?_, fun b k hb => ?_, fun b k hb hk => ?_, fun b k hb hk => ?_, hd, fun b k hb hk => by rw [hro b k hb] at hk; cases hk⟩
    · obtain ⟨l, hl⟩ := get b k hb
      simpa [E, hl] using (r4 b k l hb hl).1
    · obtain ⟨l, hl⟩ := get b k hb
      obtain ⟨h1, h2⟩ := (r4 b k l hb hl).2.2.2 i x hx
      exact ⟨x, by simpa [E, Emb.at, hl] using h1, CR.of_plain h2⟩
    · obtain ⟨l, hl⟩ := get b k hb
      simpa [E, hl] using (r4 b k l hb hl).2.2.1
    · rw [hro b k hb] at hk; cases hk
    · rw [hro b k hb] at hk; cases hk
  have hp : P2 (VR E bl.length) us args.toList := r3 E (fun i l hl => by simp [E, hl]) bl.length (by omega)
  refine ((ac us bl r1).2 E W args hr hp).mono fun e W' ⟨E', v', he, hv, _, hl⟩ => ?_
  obtain rfl := hv.bool
  have bel := hl.below hro
  have hds := hspec ds (trodAll_length hA)
  refine ⟨_, he, ds, [], _, [], p, [], hW', ?_, ?_, ?_, bel.frame _, fun h => by cases h⟩
  · rw [hds, hres]
    exact trodAll_mk1 (shut_bool htb _)
  · rw [hds]
    exact trodAll_below laid bel hty hA
  · rw [hds, hvars]
    rfl

/-- From a contract to the form of the given statements. -/
theorem frame_law {H : Type} {enc : TypeId × Value → H} {C : Checked} {os : Os} {f : FuncId} {fn : Func} {s : ChangeSpec} {conds : List PathCond} {tb : TypeId}
    (own : ownKnob C.prog.godebug = none) (started : os.Started) (noInit : C.prog.inits.idxOf? f = none) (hfn : C.prog.funcs[f]? = some fn) (laid : laidOutB C.prog = true)
    (witness : ∃ (w : World) (tape : Tape) (i : Input), w.os = os ∧ (w.forCall tape i).Shaped C.prog ∧ i.vars = [] ∧ Input.okWide C.prog (w.forCall tape i) .any w.heap.size f i ∧
      s.pre6 enc C.prog fn conds false (w.forCall tape i).memory i.args ∧ ({} : Assume).holds C.prog (lone (Frame.enter C.prog f i.args .normal) [] (w.forCall tape i)))
    (hvars : s.vars = []) (hspec : ∀ ds : List (DataW H), ds.length = fn.params.toList.length → s.fn H (ds ++ []) = { results := [.lit (.bool true)], args := ds })
    (hdoor : ∀ W : World, W.ShapedOpen C.prog → doorOk W) (hres : fn.resultTypes = #[tb]) (htb : C.prog.underlying tb = some .bool) (hty : fn.params.toList.all (argTy C.prog) = true)
    (ac : ∀ us bl, ArgsU C.prog 0 fn.params.toList us bl → AC C.prog f us bl (.bool true) bl) :
    ReturnsInHanded {} C os f .any (s.pre6 enc C.prog fn conds false) (s.post enc C.prog fn false true false false) := by
  refine returnsInHanded_of_change_shaped own started noInit hfn witness ?_
  intro W base args ds gs before hval hW _ _ hsh _
  exact frame_core laid hvars hspec hres htb hty ac W base args ds gs before (hdoor W hsh) hval hW

/-- The same, for rows that list package-level variables: X is what they hold. -/
theorem frame_law_laid {H : Type} {enc : TypeId × Value → H} {C : Checked} {os : Os} {f : FuncId} {fn : Func} {s : ChangeSpec} {conds : List PathCond} {tb : TypeId} {X : World → Prop}
    (hX : ∀ w w' : World, w.heap = w'.heap → X w → X w')
    (own : ownKnob C.prog.godebug = none) (started : os.Started) (noInit : C.prog.inits.idxOf? f = none) (hfn : C.prog.funcs[f]? = some fn) (laid : laidOutB C.prog = true)
    (witness : ∃ (w : World) (tape : Tape) (i : Input), w.os = os ∧ (w.forCall tape i).Shaped C.prog ∧ i.vars = [] ∧ Input.okWide C.prog (w.forCall tape i) .any w.heap.size f i ∧
      ((s.pre enc C.prog fn conds false (w.forCall tape i).memory i.args ∧ X (w.forCall tape i).memory) ∧ sizedMet enc C.prog fn (OpenSpec.ofChange s) false (w.forCall tape i).memory i.args) ∧ ({} : Assume).holds C.prog (lone (Frame.enter C.prog f i.args .normal) [] (w.forCall tape i)))
    (hvars : s.vars = []) (hspec : ∀ ds : List (DataW H), ds.length = fn.params.toList.length → s.fn H (ds ++ []) = { results := [.lit (.bool true)], args := ds })
    (hdoor : ∀ W : World, W.ShapedOpen C.prog → X W → doorOk W) (hres : fn.resultTypes = #[tb]) (htb : C.prog.underlying tb = some .bool) (hty : fn.params.toList.all (argTy C.prog) = true)
    (ac : ∀ us bl, ArgsU C.prog 0 fn.params.toList us bl → AC C.prog f us bl (.bool true) bl) :
    ReturnsInHanded {} C os f .any (fun w args => (s.pre enc C.prog fn conds false w args ∧ X w) ∧ sizedMet enc C.prog fn (OpenSpec.ofChange s) false w args) (s.post enc C.prog fn false true false false) := by
  refine returnsInHanded_of_calls own started noInit witness ?_
  intro w tape i _ hsh _ hok hpre _
  obtain ⟨_, _, _, fn', hfn', _, _, _, _, hval⟩ := hok
  obtain rfl : fn' = fn := Option.some.inj (hfn'.symm.trans hfn)
  obtain ⟨⟨⟨ds, gs, before, hw, _⟩, hx⟩, _⟩ := hpre
  have hw' := DataW.Whole.of_heap (w' := w.forCall tape i) (by rfl) hw
  have hx' : X (w.forCall tape i) := hX _ _ (by rfl) hx
  refine (frame_core laid hvars hspec hres htb hty ac (w.forCall tape i) w.heap.size i.args ds gs before (hdoor _ hsh hx') hval hw').mono fun e W' hp => ?_
  obtain ⟨v, rfl, hp⟩ := hp
  exact ChangeSpec.post_blind hp

end Go.Abs
