/- The abstract machine, part K: what the cells of a type hold; when two arrays or structs are equal. Generic: no program in sight. -/
import Derived.WalkKit
import Derived.WalkSpells
import Derived.DeepKeys
namespace Go.Abs
set_option linter.unusedSimpArgs false
set_option linter.unusedVariables false
set_option maxRecDepth 20000
set_option maxHeartbeats 1000000

/-- What one cell holds. -/
inductive CK where
  | int (k : IntKind)
  | bool
  | str
  deriving DecidableEq

def CK.fits : CK → Value → Prop
  | .int k, v => ∃ n, v = .int k n ∧ (Lit.int k n).wf = true
  | .bool, v => ∃ b, v = .bool b
  | .str, v => ∃ s, v = .string s ∧ s.size ≤ maxLen

def fieldKinds (P : Program) (rec : TypeId → Option (List CK)) : Nat → List Field → Option (List CK)
  | _, [] => some []
  | o, f :: fs => (rec f.type).bind fun ks => if f.offset = o ∧ ks.length = P.cellsOf f.type then (fieldKinds P rec (o + ks.length) fs).map (ks ++ ·) else none

/-- What the cells of a type hold, where they hold no addresses. -/
def kinds (P : Program) : Nat → TypeId → Option (List CK)
  | 0, _ => none
  | d + 1, t =>
    match P.underlying t with
    | some .bool => some [.bool]
    | some (.int k) => some [.int k]
    | some .string => some [.str]
    | some (.array n e) => (kinds P d e).bind fun ks => if ks.length = P.cellsOf e ∧ n * P.cellsOf e = P.cellsOf t then some (List.replicate n ks).flatten else none
    | some (.struct fs) => (fieldKinds P (kinds P d) 0 fs.toList).bind fun ks => if ks.length = P.cellsOf t then some ks else none
    | _ => none


/-- Two cells alike. -/
def ceq : Value → Value → Bool
  | .int _ a, .int _ b => a == b
  | .bool a, .bool b => a == b
  | .string a, .string b => a.toList == b.toList
  | _, _ => false

def leq : List Value → List Value → Bool
  | [], [] => true
  | a :: as, b :: bs => ceq a b && leq as bs
  | _, _ => false

def CK.ok : CK → Value → Bool
  | .int k, .int k' _ => decide (k' = k)
  | .bool, .bool _ => true
  | .str, .string _ => true
  | _, _ => false

def oks : List CK → List Value → Bool
  | [], [] => true
  | k :: ks, v :: vs => k.ok v && oks ks vs
  | _, _ => false

theorem oks_length : ∀ {ks : List CK} {cs : List Value}, oks ks cs = true → cs.length = ks.length
  | [], [], _ => rfl
  | _ :: _, _ :: _, h => by simp only [oks, Bool.and_eq_true] at h; simp [oks_length h.2]
  | [], _ :: _, h => by cases h
  | _ :: _, [], h => by cases h

theorem oks_split : ∀ {ks ks' : List CK} {cs : List Value}, oks (ks ++ ks') cs = true → oks ks (cs.take ks.length) = true ∧ oks ks' (cs.drop ks.length) = true
  | [], _, _, h => ⟨by simp [oks], by simpa using h⟩
  | k :: ks, ks', [], h => by cases h
  | k :: ks, ks', c :: cs, h => by
    simp only [List.cons_append, oks, Bool.and_eq_true] at h
    obtain ⟨h1, h2⟩ := oks_split h.2
    exact ⟨by simp [oks, h.1, h1], by simpa using h2⟩

theorem leq_split : ∀ {n : Nat} {cs ds : List Value}, cs.length = ds.length → leq cs ds = (leq (cs.take n) (ds.take n) && leq (cs.drop n) (ds.drop n))
  | 0, cs, ds, _ => by simp [leq]
  | n + 1, [], [], _ => by simp [leq]
  | n + 1, c :: cs, d :: ds, h => by
    simp only [List.take_succ_cons, List.drop_succ_cons, leq]
    rw [leq_split (n := n) (by simpa using h), Bool.and_assoc]
  | n + 1, [], _ :: _, h => by cases h
  | n + 1, _ :: _, [], h => by cases h

/-- The value of a type that these cells make. -/
def valOf (P : Program) (t : TypeId) (cs : List Value) (v : Value) : Prop := v.formed P t = true ∧ v.cells.toList = cs

/-- Two values of the type are compared as their cells are. -/
def EqA (P : Program) (dd : Nat) (t : TypeId) (ks : List CK) : Prop :=
  ∀ (w : World) (cs ds : List Value) (v v' : Value), valOf P t cs v → valOf P t ds v' → oks ks cs = true → oks ks ds = true → (Op.equalIn dd t v v').run P w = .ok (leq cs ds) w


section
variable {P : Program}

theorem oks_one {k : CK} {cs : List Value} (h : oks [k] cs = true) : ∃ v, cs = [v] ∧ k.ok v = true := by
  match cs, h with
  | [v], h => exact ⟨v, rfl, by simpa [oks] using h⟩
  | [], h => cases h
  | _ :: _ :: _, h => simp [oks] at h

/-- What may stand in cells of a type, by its description. -/
theorem kinds_cases {d : Nat} {t : TypeId} {ks : List CK} (h : kinds P d t = some ks) :
    (∃ k, ks = [k] ∧ (P.underlying t = some .bool ∧ k = .bool ∨ (∃ q, P.underlying t = some (.int q) ∧ k = .int q) ∨ P.underlying t = some .string ∧ k = .str)) ∨
    (∃ d' n e ks', d = d' + 1 ∧ P.underlying t = some (.array n e) ∧ kinds P d' e = some ks' ∧ ks'.length = P.cellsOf e ∧ n * P.cellsOf e = P.cellsOf t ∧ ks = (List.replicate n ks').flatten) ∨
    (∃ d' fs, d = d' + 1 ∧ P.underlying t = some (.struct fs) ∧ fieldKinds P (kinds P d') 0 fs.toList = some ks ∧ ks.length = P.cellsOf t) := by
  cases d with
  | zero => cases h
  | succ d =>
    unfold kinds at h
    split at h
    · rename_i hu; cases h; exact .inl ⟨_, rfl, .inl ⟨hu, rfl⟩⟩
    · rename_i hu; cases h; exact .inl ⟨_, rfl, .inr (.inl ⟨_, hu, rfl⟩)⟩
    · rename_i hu; cases h; exact .inl ⟨_, rfl, .inr (.inr ⟨hu, rfl⟩)⟩
    · rename_i n e hu
      obtain ⟨ks', h1, h2⟩ := Option.bind_eq_some_iff.1 h
      split at h2
      · rename_i hc; cases h2; exact .inr (.inl ⟨d, n, e, ks', rfl, hu, h1, hc.1, hc.2, rfl⟩)
      · cases h2
    · rename_i fs hu
      obtain ⟨ks', h1, h2⟩ := Option.bind_eq_some_iff.1 h
      split at h2
      · rename_i hc; cases h2; exact .inr (.inr ⟨d, fs, rfl, hu, h1, hc⟩)
      · cases h2
    · cases h

theorem valOf_one {t : TypeId} {c v : Value} (hp : (match P.underlying t with | some (.struct _) | some (.array _ _) => false | _ => true) = true) (h : valOf P t [c] v) : v = c := by
  obtain ⟨h1, h2⟩ := h
  cases v <;> simp_all [Value.cells, Value.formed]
  split at h1 <;> simp_all

theorem valOf_agg {t : TypeId} {cs : List Value} {v : Value} (hp : (∃ n e, P.underlying t = some (.array n e)) ∨ ∃ fs, P.underlying t = some (.struct fs)) (h : valOf P t cs v) : v = .agg cs.toArray := by
  obtain ⟨h1, h2⟩ := h
  cases v with
  | agg a => simp only [Value.cells] at h2; rw [← h2]
  | tuple a => cases h1
  | _ => rcases hp with ⟨n, e, hu⟩ | ⟨fs, hu⟩ <;> simp [Value.formed, hu] at h1

theorem run_part_val (w : World) {d : Nat} {e : TypeId} {off : Nat} {xs : Array Value} {ks : List CK} (hk : kinds P d e = some ks) (hz : ks.length = P.cellsOf e) (ho : oks ks ((xs.toList.drop off).take (P.cellsOf e)) = true) :
    ∃ v, (part e xs off).run P w = .ok v w ∧ valOf P e ((xs.toList.drop off).take (P.cellsOf e)) v := by
  have agg : (∃ n e', P.underlying e = some (.array n e')) ∨ (∃ fs, P.underlying e = some (.struct fs)) → ∃ v, (part e xs off).run P w = .ok v w ∧ valOf P e ((xs.toList.drop off).take (P.cellsOf e)) v := by
    intro hu
    have hlen := (oks_length ho).trans hz
    have hl : (xs.extract off (off + P.cellsOf e)).toList = (xs.toList.drop off).take (P.cellsOf e) := by
      rw [Array.toList_extract]
      simp [List.extract]
    refine ⟨.agg (xs.extract off (off + P.cellsOf e)), ?_, ?_, hl⟩
    · rcases hu with ⟨n, e', hu⟩ | ⟨fs, hu⟩ <;>
      · obtain ⟨i, hi⟩ := info_of_underlying hu
        simp [part, isAgg, run_underlying hu, run_sizeOf w hi]
    · have hs : (xs.extract off (off + P.cellsOf e)).size = P.cellsOf e := by rw [← Array.length_toList, hl, hlen]
      rcases hu with ⟨n, e', hu⟩ | ⟨fs, hu⟩ <;> simp [Value.formed, hu, hs]
  rcases kinds_cases hk with ⟨k, rfl, hu⟩ | ⟨_, n, e', _, _, hu, _⟩ | ⟨_, fs, _, hu, _⟩
  · obtain ⟨v, hv, hkv⟩ := oks_one ho
    have hx : xs[off]? = some v := by
      have h1 : ((xs.toList.drop off).take (P.cellsOf e))[0]? = some v := by rw [hv]; rfl
      rw [List.getElem?_take, if_pos (by rw [← hz]; simp), List.getElem?_drop] at h1
      simpa using h1
    refine ⟨v, ?_, ?_, ?_⟩
    · rcases hu with ⟨hu, _⟩ | ⟨q, hu, _⟩ | ⟨hu, _⟩ <;> simp [part, isAgg, run_underlying hu, hx]
    · rcases hu with ⟨hu, rfl⟩ | ⟨q, hu, rfl⟩ | ⟨hu, rfl⟩ <;> cases v <;> simp_all [CK.ok, Value.formed]
    · rw [hv]
      rcases hu with ⟨hu, rfl⟩ | ⟨q, hu, rfl⟩ | ⟨hu, rfl⟩ <;> cases v <;> simp_all [CK.ok, Value.cells]
  · exact agg (.inl ⟨_, _, hu⟩)
  · exact agg (.inr ⟨_, hu⟩)

theorem run_items (w : World) {d dd : Nat} {e : TypeId} {ks : List CK} (hk : kinds P d e = some ks) (hz : ks.length = P.cellsOf e) (IH : EqA P dd e ks) (xs ys : Array Value) : ∀ (m i : Nat), 
    oks (List.replicate m ks).flatten (xs.toList.drop (i * P.cellsOf e)) = true → oks (List.replicate m ks).flatten (ys.toList.drop (i * P.cellsOf e)) = true →
    (Op.eqItems dd e (P.cellsOf e) xs ys (List.range' i m)).run P w = .ok (leq (xs.toList.drop (i * P.cellsOf e)) (ys.toList.drop (i * P.cellsOf e))) w
  | 0, i, h1, h2 => by
    have e1 := oks_length h1
    have e2 := oks_length h2
    simp only [List.replicate, List.flatten_nil, List.length_nil] at e1 e2
    rw [List.eq_nil_of_length_eq_zero e1, List.eq_nil_of_length_eq_zero e2]
    simp [Op.eqItems, leq]
  | m + 1, i, h1, h2 => by
    have hlen := (oks_length h1).trans (oks_length h2).symm
    rw [List.replicate_succ, List.flatten_cons] at h1 h2
    obtain ⟨a1, a2⟩ := oks_split h1
    obtain ⟨b1, b2⟩ := oks_split h2
    rw [hz] at a1 a2 b1 b2
    obtain ⟨x, hx, vx⟩ := run_part_val w hk hz a1
    obtain ⟨y, hy, vy⟩ := run_part_val w hk hz b1
    have hr := IH w _ _ x y vx vy a1 b1
    rw [List.drop_drop] at a2 b2
    have hn : i * P.cellsOf e + P.cellsOf e = (i + 1) * P.cellsOf e := by rw [Nat.add_mul, Nat.one_mul]
    rw [hn] at a2 b2
    have hrest := run_items w hk hz IH xs ys m (i + 1) a2 b2
    rw [leq_split (n := P.cellsOf e) hlen, List.drop_drop, List.drop_drop, hn, List.range'_succ]
    simp only [Op.eqItems, Sem.run_bind, hx, hy, hr, Result.andThen_ok]
    cases leq ((xs.toList.drop (i * P.cellsOf e)).take (P.cellsOf e)) ((ys.toList.drop (i * P.cellsOf e)).take (P.cellsOf e))
    · simp
    · simpa using hrest

theorem run_fields (w : World) {d dd : Nat} (xs ys : Array Value) : ∀ (fs : List Field) (o : Nat) (ks : List CK), fieldKinds P (kinds P d) o fs = some ks → (∀ f ∈ fs, f.name ≠ "_" ∧ ∀ ks', kinds P d f.type = some ks' → EqA P dd f.type ks') →
    oks ks (xs.toList.drop o) = true → oks ks (ys.toList.drop o) = true → (Op.eqFields dd xs ys fs).run P w = .ok (leq (xs.toList.drop o) (ys.toList.drop o)) w
  | [], o, ks, hk, _, h1, h2 => by
    cases hk
    have e1 := oks_length h1
    have e2 := oks_length h2
    simp only [List.length_nil] at e1 e2
    rw [List.eq_nil_of_length_eq_zero e1, List.eq_nil_of_length_eq_zero e2]
    simp [Op.eqFields, leq]
  | f :: fs, o, ks, hk, hall, h1, h2 => by
    have hlen := (oks_length h1).trans (oks_length h2).symm
    unfold fieldKinds at hk
    obtain ⟨k1, hk1, hk2⟩ := Option.bind_eq_some_iff.1 hk
    split at hk2
    · rename_i hc
      obtain ⟨k2, hk3, rfl⟩ := Option.map_eq_some_iff.1 hk2
      obtain ⟨a1, a2⟩ := oks_split h1
      obtain ⟨b1, b2⟩ := oks_split h2
      obtain ⟨hn, IH⟩ := hall f (List.mem_cons_self ..)
      rw [hc.2, ← hc.1] at a1 b1
      obtain ⟨x, hx, vx⟩ := run_part_val w hk1 hc.2 a1
      obtain ⟨y, hy, vy⟩ := run_part_val w hk1 hc.2 b1
      have hr := IH k1 hk1 w _ _ x y vx vy a1 b1
      rw [List.drop_drop] at a2 b2
      have hrest := run_fields w xs ys fs (o + k1.length) k2 hk3 (fun g hg => hall g (List.mem_cons_of_mem _ hg)) a2 b2
      rw [leq_split (n := P.cellsOf f.type) hlen, List.drop_drop, List.drop_drop, ← hc.2]
      rw [← hc.2] at hr
      rw [hc.1] at hx hy hr
      simp only [Op.eqFields, hn, ne_eq, not_false_eq_true, if_true, Sem.run_bind, hc.1, hx, hy, hr, Result.andThen_ok]
      cases leq ((xs.toList.drop o).take k1.length) ((ys.toList.drop o).take k1.length)
      · simp
      · simpa using hrest
    · cases hk2

theorem eqA : ∀ (m d : Nat) (t : TypeId) (ks : List CK), kinds P d t = some ks → P.keyTypeAt m t = true → ∀ dd, EqA P (dd + m) t ks
  | 0, _, _, _, _, h, _ => by simp [Program.keyTypeAt] at h
  | m + 1, d, t, ks, hk, hm, dd => by
    intro w cs ds v v' hv hv' o1 o2
    unfold Program.keyTypeAt at hm
    rcases kinds_cases hk with ⟨k, rfl, hu⟩ | ⟨d', n, e, ks', rfl, hu, hk', hz, hn, rfl⟩ | ⟨d', fs, rfl, hu, hfk, hz⟩
    · obtain ⟨c, rfl, hc⟩ := oks_one o1
      obtain ⟨c', rfl, hc'⟩ := oks_one o2
      have e1 := valOf_one (by rcases hu with ⟨hu, _⟩ | ⟨q, hu, _⟩ | ⟨hu, _⟩ <;> simp [hu]) hv
      have e2 := valOf_one (by rcases hu with ⟨hu, _⟩ | ⟨q, hu, _⟩ | ⟨hu, _⟩ <;> simp [hu]) hv'
      subst e1 e2
      rcases hu with ⟨hu, rfl⟩ | ⟨q, hu, rfl⟩ | ⟨hu, rfl⟩
      · cases v <;> simp only [CK.ok, Bool.false_eq_true] at hc
        cases v' <;> simp only [CK.ok, Bool.false_eq_true] at hc'
        rw [show dd + (m + 1) = (dd + m) + 1 from rfl, run_equalIn_bool w (dd + m) t _ _ hu]
        simp [leq, ceq]
      · cases v <;> simp only [CK.ok, Bool.false_eq_true, decide_eq_true_eq] at hc
        cases v' <;> simp only [CK.ok, Bool.false_eq_true, decide_eq_true_eq] at hc'
        subst hc hc'
        rw [show dd + (m + 1) = (dd + m) + 1 from rfl, run_equalIn_int w (dd + m) t _ _ _ _ hu]
        simp [leq, ceq]
      · cases v <;> simp only [CK.ok, Bool.false_eq_true] at hc
        cases v' <;> simp only [CK.ok, Bool.false_eq_true] at hc'
        rw [show dd + (m + 1) = (dd + m) + 1 from rfl, run_equalIn_string w (dd + m) t _ _ hu]
        simp [leq, ceq]
    · simp only [hu] at hm
      have e1 := valOf_agg (by simp [hu]) hv
      have e2 := valOf_agg (by simp [hu]) hv'
      subst e1 e2
      have hpe : ∃ i, P.info? e = some i := by
        rcases kinds_cases hk' with ⟨_, _, ⟨hu, _⟩ | ⟨q, hu, _⟩ | ⟨hu, _⟩⟩ | ⟨_, _, _, _, _, hu, _⟩ | ⟨_, _, _, hu, _⟩ <;> exact info_of_underlying hu
      obtain ⟨i, hi⟩ := hpe
      rw [show dd + (m + 1) = (dd + m) + 1 from rfl, run_equalIn_array w (dd + m) _ _ hu hi, List.range_eq_range']
      have := run_items w hk' hz (eqA m d' e ks' hk' hm dd) cs.toArray ds.toArray n 0 (by simpa using o1) (by simpa using o2)
      simpa using this
    · simp only [hu, Bool.and_eq_true, Bool.not_eq_true'] at hm
      have e1 := valOf_agg (by simp [hu]) hv
      have e2 := valOf_agg (by simp [hu]) hv'
      subst e1 e2
      have hfs : P.fieldsOf t = fs := by simp [Program.fieldsOf, hu]
      rw [show dd + (m + 1) = (dd + m) + 1 from rfl, run_equalIn_struct w (dd + m) t _ _ (by rw [hfs]; exact hu) hm.2, hfs]
      have := run_fields w (dd := dd + m) cs.toArray ds.toArray fs.toList 0 ks hfk (fun f hf => by
        have := Array.all_eq_true_iff_forall_mem.1 hm.1.1 f (Array.mem_toList_iff.1 hf)
        simp only [Bool.and_eq_true, bne_iff_ne, ne_eq] at this
        exact ⟨this.1, fun ks' hks' => eqA m d' f.type ks' hks' this.2 dd⟩) (by simpa using o1) (by simpa using o2)
      simpa using this
end

end Go.Abs
