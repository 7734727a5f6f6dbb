/- The abstract machine, part M: arrays that are filled place by place; arguments taken apart. Generic: no program in sight. -/
import Derived.Test.YtalbdgkbinndlaaDoorAbsL
import Derived.Test.YtalbdgkbinndlaaDoorAbsJ
namespace Go.Abs
set_option linter.unusedSimpArgs false
set_option linter.unusedVariables false
set_option maxRecDepth 20000
set_option maxHeartbeats 1000000

/-- The first k places from f, the others from g. -/
def pre {α : Type} (k : Nat) (f g : Nat → α) : Nat → α := fun i => if i < k then f i else g i

theorem pre_zero {α : Type} (f g : Nat → α) : pre 0 f g = g := by funext i; simp [pre]
theorem upd_pre {α : Type} (k : Nat) (f g : Nat → α) : upd (pre k f g) k (f k) = pre (k + 1) f g := by
  funext i
  unfold upd pre
  by_cases h : i = k
  · subst h; simp
  · rw [if_neg h]
    by_cases h1 : i < k
    · rw [if_pos h1, if_pos (by omega)]
    · rw [if_neg h1, if_neg (by omega)]
theorem pre_get {α : Type} {k i : Nat} (f g : Nat → α) (h : k ≤ i) : pre k f g i = g i := if_neg (by omega)
theorem pre_self {α : Type} (k : Nat) (f g : Nat → α) : pre k f g k = g k := if_neg (by omega)
theorem Bs_congr {n : Nat} {f g : Nat → UInt8} (h : ∀ i, i < n → f i = g i) : Bs n f = Bs n g := by
  unfold Bs
  exact List.map_congr_left fun i hi => by rw [h i (List.mem_range.1 hi)]
theorem Bs_pre (n : Nat) (f g : Nat → UInt8) : Bs n (pre n f g) = Bs n f := Bs_congr fun i hi => if_pos hi

theorem Bs_inj {n : Nat} {f g : Nat → UInt8} (h : ∀ i, i < n → f i = g i) : Value.agg (Bs n f).toArray = Value.agg (Bs n g).toArray := by rw [Bs_congr h]

section
variable {P : Program} {n : Nat} {t : TypeId} {ts : List TypeId} {us : List Value} {bl : List Blk}

theorem ArgsU.done (h : ArgsU P n [] us bl) : us = [] ∧ bl = [] := by cases h; exact ⟨rfl, rfl⟩

theorem u8_of_wf {x : Int} (h : (Lit.int .u8 x).wf = true) : Value.int .u8 x = B (toB x) := by
  simp only [Lit.wf, Bool.and_eq_true, decide_eq_true_eq, IntKind.min, IntKind.max, IntKind.bits, IntKind.signed] at h
  obtain ⟨m, rfl⟩ : ∃ m : Nat, x = m := ⟨x.toNat, by simp at h; omega⟩
  have hm : m < 256 := by simp at h; omega
  rw [toB_nat]
  unfold B
  rw [UInt8.toNat_ofNat']
  congr 1
  simp [Nat.mod_eq_of_lt hm]

theorem Fits.bytes {m : Nat} {cs : List Value} (h : Fits (List.replicate m (.int .u8)) cs) : ∃ f, cs = Bs m f := by
  obtain ⟨hl, hf⟩ := h
  simp at hl
  refine ⟨fun i => toB (match cs.getD i J with | .int _ x => x | _ => 0), List.ext_getElem? fun i => ?_⟩
  rcases Nat.lt_or_ge i m with hi | hi
  · rw [Bs_get hi, List.getElem?_eq_getElem (by omega)]
    obtain ⟨x, hx, hw⟩ := hf i (.int .u8) cs[i] (by simp [hi]) (List.getElem?_eq_getElem (by omega))
    simp only [List.getD_eq_getElem?_getD, List.getElem?_eq_getElem (show i < cs.length by omega), Option.getD_some, hx]
    rw [u8_of_wf hw]
  · rw [List.getElem?_eq_none (by omega), List.getElem?_eq_none (by rw [Bs_length]; omega)]

theorem Fits.split {ks ks' : List CK} {cs : List Value} (h : Fits (ks ++ ks') cs) : ∃ a b, cs = a ++ b ∧ Fits ks a ∧ Fits ks' b := by
  have hl := h.1
  simp at hl
  refine ⟨cs.take ks.length, cs.drop ks.length, (List.take_append_drop ..).symm, ⟨by simp; omega, fun i k v hk hv => ?_⟩, ⟨by simp; omega, fun i k v hk hv => ?_⟩⟩
  · have hi : i < ks.length := (List.getElem?_eq_some_iff.1 hk).1
    rw [List.getElem?_take, if_pos hi] at hv
    exact h.2 i k v (by rw [List.getElem?_append_left hi]; exact hk) hv
  · rw [List.getElem?_drop] at hv
    exact h.2 (ks.length + i) k v (by rw [List.getElem?_append_right (by omega)]; simpa using hk) hv

theorem Fits.one {k : CK} {cs : List Value} (h : Fits [k] cs) : ∃ v, cs = [v] ∧ k.fits v := by
  obtain ⟨hl, hf⟩ := h
  match cs, hl with
  | [v], _ => exact ⟨v, rfl, hf 0 k v rfl rfl⟩

/-- An argument that is an array of bytes. -/
theorem ArgsU.bytes {m : Nat} (h : ArgsU P n (t :: ts) us bl) (hk : kinds P 8 t = some (List.replicate m (.int .u8))) (ha : tagg P t = some true) :
    ∃ f us', us = .agg (Bs m f).toArray :: us' ∧ ArgsU P n ts us' bl := by
  cases h with
  | agg hu hk' hf rest =>
    rw [hk] at hk'; cases hk'
    obtain ⟨f, hf⟩ := hf.bytes
    exact ⟨f, _, by rw [← hf], rest⟩
  | cell hk' hu hf rest => rw [ha] at hu; cases hu
  | nils hu rest => simp [tagg, hu] at ha
  | slice hu hk' hl hf rest => simp [tagg, hu] at ha

/-- An argument that is an integer. -/
theorem ArgsU.int {k : IntKind} (h : ArgsU P n (t :: ts) us bl) (hk : P.underlying t = some (.int k)) :
    ∃ x us', us = .int k x :: us' ∧ (Lit.int k x).wf = true ∧ ArgsU P n ts us' bl := by
  cases h with
  | agg hu hk' hf rest => simp [tagg, hk] at hu
  | cell hk' hu hf rest =>
    simp [kinds, hk] at hk'
    subst hk'
    obtain ⟨x, rfl, hw⟩ := hf
    exact ⟨x, _, rfl, hw, rest⟩
  | nils hu rest => rw [hk] at hu; cases hu
  | slice hu hk' hl hf rest => rw [hk] at hu; cases hu

theorem ArgsU.bool (h : ArgsU P n (t :: ts) us bl) (hk : P.underlying t = some .bool) : ∃ x us', us = .bool x :: us' ∧ ArgsU P n ts us' bl := by
  cases h with
  | agg hu hk' hf rest => simp [tagg, hk] at hu
  | cell hk' hu hf rest =>
    simp [kinds, hk] at hk'
    subst hk'
    obtain ⟨x, rfl⟩ := hf
    exact ⟨x, _, rfl, rest⟩
  | nils hu rest => rw [hk] at hu; cases hu
  | slice hu hk' hl hf rest => rw [hk] at hu; cases hu

theorem ArgsU.string (h : ArgsU P n (t :: ts) us bl) (hk : P.underlying t = some .string) : ∃ x us', us = .string x :: us' ∧ x.size ≤ maxLen ∧ ArgsU P n ts us' bl := by
  cases h with
  | agg hu hk' hf rest => simp [tagg, hk] at hu
  | cell hk' hu hf rest =>
    simp [kinds, hk] at hk'
    subst hk'
    obtain ⟨x, rfl, hx⟩ := hf
    exact ⟨x, _, rfl, hx, rest⟩
  | nils hu rest => rw [hk] at hu; cases hu
  | slice hu hk' hl hf rest => rw [hk] at hu; cases hu

/-- An argument that is a slice of bytes, or of arrays of bytes. -/
theorem ArgsU.list {m : Nat} {e : TypeId} (h : ArgsU P n (t :: ts) us bl) (hk : P.underlying t = some (.slice e)) (he : kinds P 8 e = some (List.replicate m (.int .u8))) :
    (∃ us', us = .slice none 0 0 :: us' ∧ ArgsU P n ts us' bl) ∨ ∃ len f us' bl', us = sl n 0 len m :: us' ∧ bl = ⟨Bs (len * m) f, false⟩ :: bl' ∧ len ≤ maxLen ∧ ArgsU P (n + 1) ts us' bl' := by
  cases h with
  | agg hu hk' hf rest => simp [tagg, hk] at hu
  | cell hk' hu hf rest => simp [kinds, hk] at hk'
  | nils hu rest => exact .inl ⟨_, rfl, rest⟩
  | slice hu hk' hl hf rest =>
    rw [hk] at hu; cases hu
    rw [he] at hk'; cases hk'
    rename_i len cs
    rw [List.flatten_replicate_replicate] at hf
    obtain ⟨f, hf⟩ := hf.bytes
    exact .inr ⟨_, f, _, _, by simp, by rw [hf], hl, rest⟩

end
end Go.Abs
