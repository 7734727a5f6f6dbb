/- The abstract machine, part E: the operations that make or write memory, and that the model's own run of each agrees. Generic: no program in sight. -/
import Derived.Test.YtalbdgkbinndlaaDoorAbsD
namespace Go.Abs
set_option linter.unusedSimpArgs false
set_option linter.unusedVariables false
set_option maxRecDepth 20000
set_option maxHeartbeats 1000000

def repA (zs : List Value) (n : Nat) : List Value := (List.range (n * zs.length)).map fun i => zs.getD (i % zs.length) J

def zerosA (P : Program) (e : TypeId) (n : Nat) : Option (List Value) :=
  (tsz P e).bind fun z => (tzero P e).bind fun zv => (cellsA zv).bind fun zs => if zs.length = z ∧ zs.all plainC = true then some (repA zs n) else none

def storeA (P : Program) (h : List Blk) (T : TypeId) (p : Addr) (v : Value) : Option (List Blk) :=
  (h[p.block]?).bind fun k => (cellsA v).bind fun cs => (tsz P T).bind fun n =>
  if k.rw = true ∧ cs.length = n ∧ p.off + cs.length ≤ k.cells.length then some (h.set p.block ⟨splice k.cells p.off cs, true⟩) else none

def srcA (h : List Blk) (z : Nat) : Value → Option (Nat × List Value)
  | .slice none 0 _ => some (0, [])
  | .slice (some q) m es => (h[q.block]?).bind fun k => if es = z ∧ q.off + m * z ≤ k.cells.length then some (m, sub k.cells q.off (m * z)) else none
  | _ => none

def roomOk (n bytes : Nat) : Prop := n * bytes ≤ 140737488355328

instance (n bytes : Nat) : Decidable (roomOk n bytes) := inferInstanceAs (Decidable (_ ≤ _))

def appendTo (h : List Blk) (z bytes : Nat) (s : Value) (m : Nat) (news : List Value) : Option (Value × List Blk) :=
  match s with
  | .slice none 0 0 => if m = 0 then some (.slice none 0 0, h) else if roomOk m bytes then some (.slice (some ⟨h.length, 0, none⟩) m z, h ++ [⟨news, true⟩]) else none
  | .slice (some p) len es => (h[p.block]?).bind fun k =>
    if es = z ∧ p.off = 0 ∧ k.rw = true ∧ k.cells.length = len * z ∧ roomOk (len + m) bytes then
      some (.slice (some ⟨h.length, 0, none⟩) (len + m) z, h.set p.block dead ++ [⟨k.cells ++ news, true⟩])
    else none
  | _ => none

def elemInfo (P : Program) (T : TypeId) : Option (TypeId × Nat × Nat) :=
  match P.underlying T with
  | some (.slice e) => (tsz P e).bind fun z => (tbytes P e).bind fun by' => (tzero P e).bind fun zv => if zv.cells.size = z ∧ 0 < z ∧ 0 < by' then some (e, z, by') else none
  | _ => none

/-- A new slice of zeros, made by 'append' onto nil. -/
def appendZ (P : Program) (h : List Blk) (T' : TypeId) (i : TypeId × Nat × Nat) (s x : Value) : Option (Value × List Blk) :=
  match P.underlying T', s, x with
  | some (.int _), .slice none 0 0, .int .i64 n => (zerosA P i.1 n.toNat).bind fun zs => if 0 < n ∧ roomOk n.toNat i.2.2 then some (.slice (some ⟨h.length, 0, none⟩) n.toNat i.2.1, h ++ [⟨zs, true⟩]) else none
  | _, _, _ => none

def appendA (P : Program) (h : List Blk) (T T' : TypeId) (s x : Value) : Option (Value × List Blk) :=
  (elemInfo P T).bind fun i => if T' = T then (srcA h i.2.1 x).bind fun n => appendTo h i.2.1 i.2.2 s n.1 n.2 else appendZ P h T' i s x

def copyA (P : Program) (h : List Blk) (T : TypeId) (d x : Value) : Option (Value × List Blk) :=
  (elemInfo P T).bind fun i => (slA d).bind fun s => (slA x).bind fun q =>
  (h[s.1.block]?).bind fun k => (h[q.1.block]?).bind fun k' =>
  let n := Nat.min q.2.1 s.2.1
  if s.2.2 = i.2.1 ∧ q.2.2 = i.2.1 ∧ k.rw = true ∧ s.1.off + n * i.2.1 ≤ k.cells.length ∧ q.1.off + n * i.2.1 ≤ k'.cells.length then
    some (.int .i64 n, h.set s.1.block ⟨splice k.cells s.1.off (sub k'.cells q.1.off (n * i.2.1)), true⟩)
  else none

/-- The operations that make or write memory. -/
def mop (P : Program) (t : List Value) (h : List Blk) : Op → Option (Value × List Blk)
  | .alloc T => (tzero P T).bind fun z => (cellsA z).bind fun cs => if cs.all plainC = true then some (.pointer (some ⟨h.length, 0, none⟩), h ++ [⟨cs, true⟩]) else none
  | .box _ x => (cellsA (ev t x)).map fun cs => (.pointer (some ⟨h.length, 0, none⟩), h ++ [⟨cs, true⟩])
  | .store T a x => (ptrA (ev t a)).bind fun p => (storeA P h T p (ev t x)).map fun h' => (J, h')
  | .buildSlice T len parts =>
    match P.underlying T with
    | some (.slice e) => (tsz P e).bind fun z => (zerosA P e len).bind fun zs => if len * z ≤ 2 ^ 24 then
        (fillA (fun i => some (i * z, z)) zs (parts.toList.map fun p => (p.1, ev t p.2))).map fun cs => (.slice (some ⟨h.length, 0, none⟩) len z, h ++ [⟨cs, true⟩])
      else none
    | _ => none
  | .makeSlice T l c => (intA (ev t l)).bind fun n => (intA (ev t c)).bind fun n' =>
    match P.underlying T with
    | some (.slice e) => (tsz P e).bind fun z => (tbytes P e).bind fun by' => (zerosA P e n.toNat).bind fun zs =>
      if n' = n ∧ 0 ≤ n ∧ 0 < by' ∧ roomOk n.toNat by' then some (.slice (some ⟨h.length, 0, none⟩) n.toNat z, h ++ [⟨zs, true⟩]) else none
    | _ => none
  | .call c => match c.callee with
    | .builtin .append => match c.args.toList, c.argTypes.toList with | [s, x], [T, T'] => appendA P h T T' (ev t s) (ev t x) | _, _ => none
    | .builtin .copy => match c.args.toList, c.argTypes.toList with | [s, x], T :: _ => copyA P h T (ev t s) (ev t x) | _, _ => none
    | _ => none
  | _ => none

section
variable {P : Program} {E : Emb} {t : List Value} {h : List Blk} {w : World} {a : Act}

/-- What an operation that makes or writes memory leaves. -/
def Left (E : Emb) (h : List Blk) (w : World) (v : Value) (h' : List Blk) (v' : Value) (w' : World) : Prop :=
  ∃ E', VR E' h'.length v v' ∧ HR E' h' w' ∧ Link E h w E' h' w'

theorem alloc_left (hr : HR E h w) {cs : List Value} {ds : Array Value} {ty : TypeId} (hc : Row E h.length cs ds.toList) :
    Left E h w (.pointer (some ⟨h.length, 0, none⟩)) (h ++ [⟨cs, true⟩]) (.pointer (some ⟨w.heap.size, 0, none⟩)) (w.alloc (.cells ds ty)) := by
  obtain ⟨h1, h2⟩ := hr.alloc (ty := ty) hc
  exact ⟨_, ⟨rfl, by simp, by simp [Emb.with]⟩, h1, h2⟩

theorem alloc_left_slice (hr : HR E h w) {cs : List Value} {ds : Array Value} {ty : TypeId} (hc : Row E h.length cs ds.toList) {n cap z : Nat} (hn : n ≤ cap) (hcap : cap * z ≤ ds.size) :
    Left E h w (.slice (some ⟨h.length, 0, none⟩) n z) (h ++ [⟨cs, true⟩]) (.slice (some ⟨w.heap.size, 0, none⟩) n cap) (w.alloc (.cells ds ty)) := by
  obtain ⟨h1, h2⟩ := hr.alloc (ty := ty) hc
  exact ⟨_, ⟨rfl, by simp, _, cap, rfl, hn, .inr ⟨by simp [Emb.with], by simp [Emb.with]; exact hcap⟩⟩, h1, h2⟩

theorem own_row (hr : HR E h w) {b : Nat} {k : Blk} (hb : h[b]? = some k) (hk : k.rw = true) : E.base b = 0 ∧ ∃ cs e, w.heap[E.loc b]? = some (.cells cs e (0, 0)) ∧ cs.size = E.room b ∧ Row E h.length k.cells cs.toList := by
  obtain ⟨h0, cs, e, h1, h2⟩ := hr.own b k hb hk
  exact ⟨h0, cs, e, h1, h2, hr.row hb h0 h1⟩

/-- Cells that are written into a block of ours. -/
theorem store_left (hr : HR E h w) {b off : Nat} {k : Blk} (hb : h[b]? = some k) (hk : k.rw = true) {cs : List Value} {vs : List Value} (hc : P2 (CR E h.length) cs vs) (hl : off + cs.length ≤ k.cells.length) :
    ∃ w', (storeCells (E.at b off) vs).run P w = .ok () w' ∧ HR E (h.set b ⟨splice k.cells off cs, true⟩) w' ∧ Link E h w E (h.set b ⟨splice k.cells off cs, true⟩) w' := by
  obtain ⟨hb0, cur, e, h1, h2, h3⟩ := own_row hr hb hk
  have hlen := h3.length
  have hcl := hc.1
  have hfit : off + 0 + vs.length ≤ cur.size := by simp at hlen; omega
  have hst := run_storeCells_at P (E.loc b) off e vs 0 cur w h1 hfit hc.one
  simp only [Nat.add_zero] at hst
  rw [Emb.at, hb0, Nat.zero_add]
  refine ⟨_, hst, hr.write hb hk h1 ?_ ?_⟩
  · have := h3.splice hc hl
    simpa [splice] using this
  · have := hc.1
    simp
    simp at hlen
    omega

theorem zerosA_sound {e : TypeId} {n z : Nat} {zs : List Value} (hz : tsz P e = some z) (hq : zerosA P e n = some zs) :
    zs.all plainC = true ∧ zs.length = n * z ∧ ∀ w, (zeroValue e).run P w = .ok ((tzero P e).getD J) w ∧
      ((Array.range (n * z)).map ((if n * z = 0 then #[] else ((tzero P e).getD J).cells)[· % (if n * z = 0 then #[] else ((tzero P e).getD J).cells).size]!)).toList = zs := by
  unfold zerosA at hq
  obtain ⟨z', hz', hq⟩ := bind_some' hq
  rw [hz] at hz'; cases hz'
  obtain ⟨zv, hzv, hq⟩ := bind_some' hq
  obtain ⟨cs, hcs, hq⟩ := bind_some' hq
  obtain ⟨⟨hl, hp⟩, rfl⟩ := ite_some hq
  have hcells : zv.cells.toList = cs := by
    have h1 := cellsA_sound (E := ⟨id, id, id⟩) (n := 0) (u := zv) (v := zv) (VR.of_plain ?_) hcs
    · exact h1.eq hp fun _ _ hp h => h.plain hp
    · unfold plainV
      cases zv <;> simp only [cellsA, reduceCtorEq, Option.some.injEq] at hcs <;> first
        | (subst hcs; simpa [plain1] using hp)
        | (rename_i r; cases r <;> simp only [reduceCtorEq, Option.some.injEq] at hcs; subst hcs; simp [plainC] at hp)
  refine ⟨?_, by simp [repA, hl], fun w => ⟨?_, ?_⟩⟩
  · rw [List.all_eq_true] at hp ⊢
    intro x hx
    obtain ⟨i, hi, rfl⟩ := List.mem_map.1 hx
    have hi' := List.mem_range.1 hi
    have hpos : 0 < cs.length := by
      rcases Nat.eq_zero_or_pos cs.length with h0 | h0
      · rw [h0] at hi'; simp at hi'
      · exact h0
    have hm := Nat.mod_lt i hpos
    rw [List.getD_eq_getElem?_getD, List.getElem?_eq_getElem hm]
    exact hp _ (List.getElem_mem hm)
  · simp [run_zeroValue' hzv, hzv]
  · simp only [hzv, Option.getD_some]
    have hsz : zv.cells.size = cs.length := by rw [← hcells]; simp
    split
    · rename_i h0
      rw [h0]
      simp [repA, hl, h0]
    · rename_i h0
      unfold repA
      rw [Array.toList_map, Array.toList_range, ← hl]
      apply List.map_congr_left
      intro i hi
      have hi' := List.mem_range.1 hi
      have hpos : 0 < cs.length := by
        rcases Nat.eq_zero_or_pos cs.length with h0 | h0
        · rw [h0] at hi'; simp at hi'
        · exact h0
      have hm := Nat.mod_lt i hpos
      rw [hsz, getElem!_pos _ _ (by rw [hsz]; exact hm), List.getD_eq_getElem?_getD, List.getElem?_eq_getElem hm]
      simp only [Option.getD_some]
      have h1 : zv.cells.toList[i % cs.length]'(by rw [hcells]; exact hm) = cs[i % cs.length] := by simp only [hcells]
      rw [← h1]; simp

theorem elemInfo_spec {T : TypeId} {i : TypeId × Nat × Nat} (hq : elemInfo P T = some i) :
    P.underlying T = some (.slice i.1) ∧ ∃ inf zv, P.info? i.1 = some inf ∧ inf.zero = some zv ∧ inf.size = i.2.1 ∧ inf.bytes = i.2.2 ∧ zv.cells.size = i.2.1 ∧ 0 < i.2.1 ∧ 0 < i.2.2 := by
  unfold elemInfo at hq
  split at hq
  · rename_i e hu
    obtain ⟨z, hz, hq⟩ := bind_some' hq
    obtain ⟨by', hb, hq⟩ := bind_some' hq
    obtain ⟨zv, hzv, hq⟩ := bind_some' hq
    obtain ⟨⟨h1, h2, h3⟩, rfl⟩ := ite_some hq
    refine ⟨hu, ?_⟩
    unfold tsz at hz
    obtain ⟨inf, hi, rfl⟩ := map_some' hz
    unfold tbytes at hb
    unfold tzero at hzv
    rw [hi] at hb hzv
    simp at hb hzv
    exact ⟨inf, zv, hi, hzv, rfl, hb, h1, h2, h3⟩
  · cases hq

/-- What is appended, as the model finds it. -/
theorem srcA_sound (hr : HR E h w) {z m : Nat} {x x' : Value} {news : List Value} (hx : VR E h.length x x') (hs : srcA h z x = some (m, news)) :
    news.length = m * z ∧ ((∃ c, x' = .slice none 0 c ∧ m = 0) ∨ ∃ ad cap vs, x' = .slice (some ad) m cap ∧ m ≤ cap ∧ P2 (CR E h.length) news vs ∧ ∀ (j : Nat) (v : Value), vs[j]? = some v → w.cell? (ad.add j) = some v) := by
  unfold srcA at hs
  split at hs
  · cases hs; exact ⟨by simp, .inl ⟨_, hx, rfl⟩⟩
  · rename_i q m' es
    obtain ⟨k, hk, hs⟩ := bind_some' hs
    obtain ⟨⟨rfl, hle⟩, he⟩ := ite_some hs
    cases he
    obtain ⟨_, hb, a', cap, rfl, hlc, hcap⟩ := hx.slice
    refine ⟨sub_length hle, .inr ⟨a', cap, ?_⟩⟩
    let f : Nat → Value := fun j => (w.cell? (E.at q.block (q.off + j))).getD undef
    have hf : ∀ j, j < m * es → ∃ x, k.cells[q.off + j]? = some x ∧ w.cell? (E.at q.block (q.off + j)) = some (f j) ∧ CR E h.length x (f j) := fun j hj => by
      have hj' : q.off + j < k.cells.length := by omega
      obtain ⟨y, hy, hc⟩ := hr.cell _ _ _ _ hk (List.getElem?_eq_getElem hj')
      exact ⟨_, List.getElem?_eq_getElem hj', by simp [f, hy], by simpa [f, hy] using hc⟩
    refine ⟨(List.range (m * es)).map f, rfl, hlc, P2.of_get (by simp [sub_length hle]) fun i x hx => ?_, fun j v hv => ?_⟩
    · have hi : i < m * es := by have := (List.getElem?_eq_some_iff.1 hx).1; simpa [sub_length hle] using this
      obtain ⟨x', h1, _, h3⟩ := hf i hi
      simp only [sub_get hi] at hx
      rw [h1] at hx; cases hx
      exact ⟨f i, by simp [hi], h3⟩
    · have hj : j < m * es := by have := (List.getElem?_eq_some_iff.1 hv).1; simpa using this
      obtain ⟨_, _, h2, _⟩ := hf j hj
      simp [hj] at hv
      subst hv
      rcases hcap with hcap | ⟨rfl, _⟩
      · have : m = 0 := by omega
        rw [this] at hj; simp at hj
      · rw [at_add]; exact h2
  · cases hs

theorem run_append_zero {T ty e : TypeId} {i : TypeInfo} {b : Option Addr} {len cap : Nat} {x' : Value} (ht : P.underlying T = some (.slice e)) (hi : P.info? e = some i) (hle : len ≤ cap)
    (hx : (∃ c, x' = .slice none 0 c) ∨ ∃ ad c, x' = .slice (some ad) 0 c) : (Builtin.append_ #[T, T] ty #[.slice b len cap, x']).run P w = .ok (.slice b len cap) w := by
  rcases hx with ⟨c, rfl⟩ | ⟨ad, c, rfl⟩ <;> cases b <;>
    simp [Builtin.append_, run_underlying ht, sizeOf, typeInfo, hi, Builtin.lenOf, Builtin.firstCells, loadCells, loadCellsFrom, storeCells, hle]

theorem run_append_room' {T ty e e0 : TypeId} {i : TypeInfo} (ht : P.underlying T = some (.slice e)) (hi : P.info? e = some i)
    {g sLen sCap : Nat} {cur : Array Value} (hg : w.heap[g]? = some (.cells cur e0 (0, 0)))
    {ad : Addr} {m c : Nat} {news : List Value} (hl : news.length = m * i.size) (hnews : ∀ j u, news[j]? = some u → w.cell? (ad.add j) = some u) (h1 : ∀ u ∈ news, u.oneCell' = true)
    (hroom : sLen + m ≤ sCap) (hfit : sLen * i.size + news.length ≤ cur.size) :
    (Builtin.append_ #[T, T] ty #[.slice (some ⟨g, 0, none⟩) sLen sCap, .slice (some ad) m c]).run P w =
      .ok (.slice (some ⟨g, 0, none⟩) (sLen + m) sCap) (w.setRow g (splice cur.toList (sLen * i.size) news).toArray) := by
  have hf := run_firstCells_some (P := P) w i.size m ad m c news hl hnews
  have hst := run_storeCells_at P g (sLen * i.size) e0 news 0 cur w hg (by simpa using hfit) h1
  simp only [Nat.add_zero] at hst
  simp [Builtin.append_, run_underlying ht, sizeOf, typeInfo, hi, Builtin.lenOf, hroom, hf, Addr.add_lit, hst, splice]

theorem HR.drew (hr : HR E h w) : HR E h w.drew := hr.of_heap rfl

theorem Link.drew (E : Emb) (h : List Blk) (w : World) : Link E h w E h w.drew :=
  ⟨Nat.le_refl _, fun _ _ => rfl, fun _ _ => ⟨rfl, rfl⟩, Nat.le_refl _, rfl, rfl, rfl, fun _ _ _ => rfl, fun b k hb hk => .inr ⟨b, k, hb, hk, rfl⟩⟩

theorem Row.append_left {n : Nat} {xs ys zs : List Value} (hx : P2 (CR E n) xs ys) : Row E n xs (ys ++ zs) := by
  intro i x hi
  obtain ⟨y, hy, hc⟩ := hx.get hi
  exact ⟨y, by rw [List.getElem?_append_left (List.getElem?_eq_some_iff.1 hy).1]; exact hy, hc⟩

theorem run_append_zeros {t t' ty e : TypeId} {i : TypeInfo} {z : Value} {k : IntKind} (ht : P.underlying t = some (.slice e)) (ht' : P.underlying t' = some (.int k)) (hi : P.info? e = some i) (hz : i.zero = some z)
    {n : Nat} (h0 : 0 < n) (hs0 : 0 < i.size) (h63 : (n : Int) ≤ 9223372036854775807) (h48 : n * i.bytes ≤ 281474976710656) :
    (Builtin.append_ #[t, t'] ty #[.slice none 0 0, .int .i64 n]).run P w =
      .ok (.slice (some ⟨w.heap.size, 0, none⟩) n (grownCap w n 0 e)) (w.drew.alloc (.cells (Builtin.zeroCells z.cells n ++ Builtin.zeroCells z.cells (grownCap w n 0 e - n)) e)) := by
  have hn : n ≠ 0 := by omega
  have hsz : i.size ≠ 0 := by omega
  have h63' : ¬ (9223372036854775807 < (n : Int)) := by omega
  have h48' : ¬ (281474976710656 < Builtin.nextslicecap n 0 * i.bytes) := by rw [nextslicecap_zero h0]; omega
  have hw : IntKind.i64.wrap (n : Int) = n := IntWalk.i64_in _ ⟨by omega, by omega⟩
  have hb : ¬ (281474976710656 < (n : Int) * (i.bytes : Int)) := by rw [← Int.natCast_mul]; omega
  have hneg : ¬ ((n : Int) < 0) := by omega
  simp [Builtin.append_, run_underlying ht, run_underlying ht', sizeOf, typeInfo, zeroValue, hi, hz, hn, hsz, h63', h48', hw, hb, hneg, asInt, asIntOf, Question.forced, run_firstCells_none, newRow, grownCap]
  intro hc
  have := Nat.mul_pos h0 hs0
  omega

theorem appendTo_spec {z by' m : Nat} {s v : Value} {news : List Value} {h' : List Blk} (hq : appendTo h z by' s m news = some (v, h')) :
    (s = .slice none 0 0 ∧ ((m = 0 ∧ v = .slice none 0 0 ∧ h' = h) ∨ (m ≠ 0 ∧ roomOk m by' ∧ v = .slice (some ⟨h.length, 0, none⟩) m z ∧ h' = h ++ [⟨news, true⟩]))) ∨
    ∃ p len k, s = .slice (some p) len z ∧ h[p.block]? = some k ∧ p.off = 0 ∧ k.rw = true ∧ k.cells.length = len * z ∧ roomOk (len + m) by' ∧
      v = .slice (some ⟨h.length, 0, none⟩) (len + m) z ∧ h' = h.set p.block dead ++ [⟨k.cells ++ news, true⟩] := by
  unfold appendTo at hq
  split at hq
  · by_cases hm : m = 0
    · rw [if_pos hm] at hq
      cases hq; exact .inl ⟨rfl, .inl ⟨hm, rfl, rfl⟩⟩
    · rw [if_neg hm] at hq
      by_cases hr : roomOk m by'
      · rw [if_pos hr] at hq
        cases hq; exact .inl ⟨rfl, .inr ⟨hm, hr, rfl, rfl⟩⟩
      · rw [if_neg hr] at hq
        cases hq
  · obtain ⟨k, hk, hq⟩ := bind_some' hq
    obtain ⟨⟨rfl, h1, h2, h3, h4⟩, he⟩ := ite_some hq
    cases he
    exact .inr ⟨_, _, k, rfl, hk, h1, h2, h3, h4, rfl, rfl⟩
  · cases hq

theorem appendA_sound {T T' ty : TypeId} {s s' x x' v : Value} {h' : List Blk} (hr : HR E h w) (hs : VR E h.length s s') (hx : VR E h.length x x') (hq : appendA P h T T' s x = some (v, h')) :
    ∃ v' w', (Builtin.append_ #[T, T'] ty #[s', x']).run P w = .ok v' w' ∧ Left E h w v h' v' w' := by
  unfold appendA at hq
  obtain ⟨⟨e, z, by'⟩, hi, hq⟩ := bind_some' hq
  obtain ⟨hu, inf, zv, hinf, hzv, hsz, hby, hzs, hz0, hb0⟩ := elemInfo_spec hi
  simp only at hu hinf hsz hby hzs hz0 hb0 hq
  split at hq
  · rename_i hT
    rw [hT]
    obtain ⟨⟨m, news⟩, hsrc, hq⟩ := bind_some' hq
    obtain ⟨hnl, hsrc⟩ := srcA_sound hr hx hsrc
    simp only at hq
    rcases appendTo_spec hq with ⟨rfl, hap⟩ | ⟨p, len, k, rfl, hk, hoff, hrw, hlen, hroom, rfl, rfl⟩
    · rw [show s' = .slice none 0 0 from hs]
      rcases hap with ⟨rfl, rfl, rfl⟩ | ⟨hm, hroom, rfl, rfl⟩
      · refine ⟨_, w, run_append_zero hu hinf (Nat.le_refl _) ?_, E, rfl, hr, Link.refl ..⟩
        rcases hsrc with ⟨c, rfl, _⟩ | ⟨ad, cap, vs, rfl, _⟩
        · exact .inl ⟨c, rfl⟩
        · exact .inr ⟨ad, cap, rfl⟩
      · · rcases hsrc with ⟨c, rfl, hm0⟩ | ⟨ad, cap, vs, rfl, hlc, hp, hcell⟩
          · exact absurd hm0 hm
          · unfold roomOk at hroom
            have hm1 : m ≤ m * by' := Nat.le_mul_of_pos_right _ hb0
            have hrun := run_append_nil (P := P) w T ty e inf zv hu hinf hzv ad m cap vs (by rw [← hp.1, hnl, hsz]) hcell (by omega) (by omega) (by rw [hby]; omega)
            refine ⟨_, _, hrun, ?_⟩
            have hge := grownCap_ge w m 0 e
            obtain ⟨E', h1, h2, h3⟩ := alloc_left_slice (hr.drew) (ty := e) (cs := news) (ds := vs.toArray ++ Builtin.zeroCells zv.cells (grownCap w m 0 e - m)) (by simpa using Row.append_left hp) (z := z) hge (by
              simp only [Array.size_append, List.size_toArray, size_zeroCells, hzs, ← hp.1, hnl, ← Nat.add_mul]
              exact Nat.mul_le_mul_right _ (by omega))
            exact ⟨E', h1, h2, (Link.drew E h w).trans h3⟩
    · obtain ⟨hsp, hb, a', cap, rfl, hlc, hcap⟩ := hs.slice
      unfold roomOk at hroom
      have hm1 : len + m ≤ (len + m) * by' := Nat.le_mul_of_pos_right _ hb0
      obtain ⟨hbz, cur, e0, hg, hcs, hrow⟩ := own_row hr hk hrw
      have hpass := hr.pass hk hrw
      have hbl : p.block < h.length := hb
      -- nothing new
      have hzero : m = 0 → Left E h w (.slice (some ⟨h.length, 0, none⟩) (len + m) z) (h.set p.block dead ++ [⟨k.cells ++ news, true⟩]) (.slice (some a') len cap) w := fun hm => by
        subst hm
        have hn : news = [] := List.eq_nil_of_length_eq_zero (by simpa using hnl)
        subst hn
        have hk' : (⟨k.cells ++ [], true⟩ : Blk) = k := by cases k; simp_all
        rw [hk']
        refine ⟨_, ⟨rfl, by simp, a', cap, rfl, hlc, ?_⟩, hpass.1, hpass.2⟩
        rcases hcap with hcap | ⟨rfl, hle⟩
        · exact .inl hcap
        · exact .inr ⟨by simp [Emb.with, Emb.at, hoff, hbz], by simp [Emb.with]; omega⟩
      rcases hsrc with ⟨c, rfl, hm0⟩ | ⟨ad, cap2, vs, rfl, hlc2, hp, hcell⟩
      · exact ⟨_, w, run_append_zero hu hinf hlc (.inl ⟨c, rfl⟩), hzero hm0⟩
      · by_cases hm0 : m = 0
        · subst hm0
          exact ⟨_, w, run_append_zero hu hinf hlc (.inr ⟨ad, cap2, rfl⟩), hzero rfl⟩
        · have hvl : vs.length = m * inf.size := by rw [← hp.1, hnl, hsz]
          by_cases hfit : len + m ≤ cap
          · rcases hcap with hcap | ⟨rfl, hle⟩
            · omega
            · rw [hoff] at hle ⊢
              have hrl := hrow.length
              have hmul : (len + m) * z ≤ cap * z := Nat.mul_le_mul_right _ hfit
              rw [Nat.add_mul] at hmul
              have h00 : E.at p.block 0 = ⟨E.loc p.block, 0, none⟩ := by simp [Emb.at, hbz]
              rw [h00]
              have hrun := run_append_room' (P := P) (w := w) (ty := ty) (c := cap2) hu hinf hg hvl hcell hp.one hfit (by rw [hvl, hsz]; omega)
              refine ⟨_, _, hrun, ?_⟩
              rw [hsz, ← hlen]
              have hrow2 : Row E h.length (k.cells ++ news) (splice cur.toList k.cells.length vs).toArray.toList := by
                intro i x hi
                have hsg : k.cells.length + vs.length ≤ cur.toList.length := by simp at hrl ⊢; rw [hvl, hsz]; omega
                simp only
                rw [splice_get hsg]
                rw [List.getElem?_append] at hi
                by_cases h1 : i < k.cells.length
                · rw [if_pos h1] at hi
                  rw [if_neg (by omega)]; exact hrow i x hi
                · rw [if_neg h1] at hi
                  obtain ⟨y, hy, hc⟩ := hp.get hi
                  have hyl := (List.getElem?_eq_some_iff.1 hy).1
                  exact ⟨y, by rw [if_pos (by omega)]; exact hy, hc⟩
              obtain ⟨h1, h2⟩ := hr.write hk hrw hg hrow2 (by
                have : k.cells.length + vs.length ≤ cur.toList.length := by simp at hrl ⊢; rw [hvl, hsz]; omega
                have := splice_length this
                simpa using this)
              have hk2 : (h.set p.block ⟨k.cells ++ news, true⟩)[p.block]? = some ⟨k.cells ++ news, true⟩ := by rw [List.getElem?_set]; simp [hbl]
              obtain ⟨h3, h4⟩ := h1.pass hk2 rfl
              simp only [List.set_set, List.length_set] at h3 h4
              refine ⟨_, ⟨rfl, by simp, _, cap, rfl, hfit, .inr ⟨by simp [Emb.with, Emb.at, hbz], by simp [Emb.with]; omega⟩⟩, h3, h2.trans h4⟩
          · have holds : ∃ olds : List Value, P2 (CR E h.length) k.cells olds ∧ ∀ (j : Nat) (v : Value), olds[j]? = some v → w.cell? (a'.add j) = some v := by
              refine ⟨cur.toList.take k.cells.length, P2.of_get (by have := hrow.length; simp at this ⊢; omega) fun i x hi => ?_, fun j v hv => ?_⟩
              · obtain ⟨y, hy, hc⟩ := hrow i x hi
                exact ⟨y, by rw [List.getElem?_take, if_pos (List.getElem?_eq_some_iff.1 hi).1]; exact hy, hc⟩
              · rw [List.getElem?_take] at hv
                split at hv
                · rename_i hj
                  rcases hcap with hcap | ⟨rfl, hle⟩
                  · have : len = 0 := by omega
                    rw [this] at hlen; omega
                  · rw [hoff, at_add, Emb.at, hbz, Nat.zero_add, Nat.zero_add, cell_of_row w _ j cur e0 (0, 0) hg]; simpa using hv
                · cases hv
            obtain ⟨olds, ho, hocell⟩ := holds
            have hrun := run_append_grow (P := P) w T ty e inf zv hu hinf hzv a' len cap olds (by rw [← ho.1, hlen, hsz]) hocell ad m cap2 vs hvl hcell (by omega) (by omega) (by rw [hby]; exact growslice_fits (by omega) hroom)
            refine ⟨_, _, hrun, ?_⟩
            have hge := grownCap_ge w (len + m) cap e
            have hkill := (hr.kill p.block).drew
            obtain ⟨E', h1, h2, h3⟩ := alloc_left_slice hkill (ty := e) (cs := k.cells ++ news) (ds := olds.toArray ++ vs.toArray ++ Builtin.zeroCells zv.cells (grownCap w (len + m) cap e - (len + m))) (by
              have := Row.append_left (zs := (Builtin.zeroCells zv.cells (grownCap w (len + m) cap e - (len + m))).toList) (ho.append hp)
              simpa using this) (z := z) hge (by
              simp only [Array.size_append, List.size_toArray, size_zeroCells, hzs, ← hp.1, ← ho.1, hnl, hlen, ← Nat.add_mul]
              exact Nat.mul_le_mul_right _ (by omega))
            simp only [List.length_set] at h1
            exact ⟨E', h1, h2, ((Link.kill E h w p.block).trans (Link.drew _ _ _)).trans h3⟩
  · unfold appendZ at hq
    split at hq
    · rename_i kk n hu' hlast
      obtain ⟨zs, hzs', hq⟩ := bind_some' hq
      obtain ⟨⟨hn0, hroom⟩, he⟩ := ite_some hq
      cases he
      unfold roomOk at hroom
      simp only at hroom hzs'
      obtain ⟨m, rfl⟩ : ∃ m : Nat, n = m := ⟨n.toNat, by omega⟩
      simp only [Int.toNat_natCast] at hroom hzs' ⊢
      rw [show s' = .slice none 0 0 from hs, show x' = .int .i64 m from hx]
      have hm1 : m ≤ m * by' := Nat.le_mul_of_pos_right _ hb0
      obtain ⟨hzp, hzl, hzr⟩ := zerosA_sound (z := z) (by simp [tsz, hinf, hsz]) hzs'
      have hrun := run_append_zeros (P := P) (w := w) (t := T) (ty := ty) hu hu' hinf hzv (n := m) (by omega) (by rw [hsz]; exact hz0) (by omega) (by rw [hby]; omega)
      refine ⟨_, _, hrun, ?_⟩
      have hge := grownCap_ge w m 0 e
      have hzc : (Builtin.zeroCells zv.cells m).toList = zs := by
        have h1 := (hzr w).2
        have hne : ¬ (m * z = 0) := by
          have : 0 < m * z := Nat.mul_pos (by omega) hz0
          omega
        rw [if_neg hne] at h1
        have h2 : (tzero P e).getD J = zv := by simp [tzero, hinf, hzv]
        rw [h2] at h1
        rw [← h1]
        unfold Builtin.zeroCells
        rw [hzs]
      obtain ⟨E', h1, h2, h3⟩ := alloc_left_slice (hr.drew) (ty := e) (cs := zs) (ds := Builtin.zeroCells zv.cells m ++ Builtin.zeroCells zv.cells (grownCap w m 0 e - m)) (by
          simp only [Array.toList_append, hzc]
          exact Row.append_left (P2.of_plain hzp fun _ h => CR.of_plain h)) (z := z) hge (by
        simp only [Array.size_append, size_zeroCells, hzs, ← Nat.add_mul]
        exact Nat.mul_le_mul_right _ (by omega))
      exact ⟨E', h1, h2, (Link.drew E h w).trans h3⟩
    · cases hq

theorem fillA_length {place : Nat → Option (Nat × Nat)} : ∀ (ps : List (Nat × Value)) (cells cs : List Value) (_ : Unit), fillA place cells ps = some cs → cs.length = cells.length
  | [], cells, cs, _, hf => by cases hf; rfl
  | p :: ps, cells, cs, u, hf => by
    obtain ⟨os, ho, hf⟩ := bind_some' hf
    obtain ⟨vc, hv, hf⟩ := bind_some' hf
    split at hf
    · rename_i hc
      have := fillA_length ps _ cs u hf
      rw [this, splice_length (by omega)]
    · cases hf

theorem run_wrap' {x : Sem Value} {v : Value} {w w' : World} (h : x.run P w = .ok v w') : (do pure (Next.value (← x)) : Sem Next).run P w = .ok (.value v) w' := by
  simp [h]

theorem run_builtin' {c : Call} {b : Builtin} {ty : TypeId} {v : Value} {w w' : World} {xs : List Operand} {ts : List TypeId} (hc : c.callee = .builtin b) (hxs : c.args.toList = xs) (hts : c.argTypes.toList = ts)
    (h : ∀ consts, (builtin b ts.toArray ty consts (xs.map a.eval).toArray).run P w = .ok (.value v) w') :
    ((do let d ← resolve a.eval c ty; invoke d.target d.args) : Sem Next).run P w = .ok (.value v) w' := by
  obtain ⟨callee, ⟨args⟩, ⟨types⟩⟩ := c
  simp only at hc hxs hts
  subst hc hxs hts
  have := h ((args.toArray).map fun | .const _ => true | _ => false)
  simp only [resolve, Sem.run_bind, Sem.run_pure, Result.andThen_ok, invoke, List.map_toArray] at this ⊢
  exact this

theorem copyA_sound {T ty : TypeId} {ts : List TypeId} {d d' x x' v : Value} {h' : List Blk} (hr : HR E h w) (hd : VR E h.length d d') (hx : VR E h.length x x') (hq : copyA P h T d x = some (v, h')) :
    ∃ v' w', (Builtin.copy_ (T :: ts).toArray ty #[d', x']).run P w = .ok v' w' ∧ Left E h w v h' v' w' := by
  unfold copyA at hq
  obtain ⟨⟨e, z, by'⟩, hi, hq1⟩ := bind_some' hq
  obtain ⟨⟨p, dl, es⟩, hd1, hq2⟩ := bind_some' hq1
  obtain ⟨⟨q, m, es'⟩, hx1, hq3⟩ := bind_some' hq2
  obtain ⟨k, hk, hq4⟩ := bind_some' hq3
  obtain ⟨k', hk', hq5⟩ := bind_some' hq4
  obtain ⟨⟨h1, h2, hrw, hfit, hsrc⟩, he⟩ := ite_some hq5
  cases he
  clear hq hq1 hq2 hq3 hq4 hq5
  obtain ⟨hu, inf, zv, hinf, hzv, hsz, hby, hzs, hz0, hb0⟩ := elemInfo_spec hi
  simp only at h1 h2 hu hinf hsz hfit hsrc
  subst h1 h2
  rw [slA_spec hd1] at hd
  rw [slA_spec hx1] at hx
  simp only at hd hx hk hk' hrw
  obtain ⟨_, hb, a', cap, rfl, hlc, hcap⟩ := hd.slice
  obtain ⟨_, hb2, a2, cap2, rfl, hlc2, hcap2⟩ := hx.slice
  have hsl : (sub k'.cells q.off (Nat.min m dl * es')).length = Nat.min m dl * es' := sub_length hsrc
  have hsz2 : tsz P e = some es' := by simp [tsz, hinf, hsz]
  have hsrcv : ∃ vs : List Value, P2 (CR E h.length) (sub k'.cells q.off (Nat.min m dl * es')) vs ∧ ∀ w0 : World, (Builtin.firstCells es' (Nat.min m dl) (.slice (some a2) m cap2)).run P w = .ok vs.toArray w := by
    obtain ⟨ad, cp, vs, h3, h4, h5, h6⟩ : ∃ ad cp vs, a2 = ad ∧ Nat.min m dl ≤ cp ∧ P2 (CR E h.length) (sub k'.cells q.off (Nat.min m dl * es')) vs ∧ ∀ (j : Nat) (v : Value), vs[j]? = some v → w.cell? (ad.add j) = some v := by
      let f : Nat → Value := fun j => (w.cell? (E.at q.block (q.off + j))).getD undef
      have hf : ∀ j, j < Nat.min m dl * es' → ∃ x, k'.cells[q.off + j]? = some x ∧ w.cell? (E.at q.block (q.off + j)) = some (f j) ∧ CR E h.length x (f j) := fun j hj => by
        have hj' : q.off + j < k'.cells.length := by omega
        obtain ⟨y, hy, hc⟩ := hr.cell _ _ _ _ hk' (List.getElem?_eq_getElem hj')
        exact ⟨_, List.getElem?_eq_getElem hj', by simp [f, hy], by simpa [f, hy] using hc⟩
      refine ⟨a2, Nat.min m dl, (List.range (Nat.min m dl * es')).map f, rfl, Nat.le_refl _, P2.of_get (by simp [hsl]) fun i x hx => ?_, fun j v hv => ?_⟩
      · have hi : i < Nat.min m dl * es' := by have := (List.getElem?_eq_some_iff.1 hx).1; rwa [hsl] at this
        obtain ⟨x', h1, _, h3⟩ := hf i hi
        simp only [sub_get hi] at hx
        rw [h1] at hx; cases hx
        exact ⟨f i, by rw [List.getElem?_map, List.getElem?_range hi]; rfl, h3⟩
      · have hj : j < Nat.min m dl * es' := by have := (List.getElem?_eq_some_iff.1 hv).1; simpa using this
        obtain ⟨_, _, h2, _⟩ := hf j hj
        rw [List.getElem?_map, List.getElem?_range hj] at hv
        cases hv
        rcases hcap2 with hcap2 | ⟨rfl, _⟩
        · have hm0 : m = 0 := by omega
          have : Nat.min m dl = 0 := by rw [hm0]; exact Nat.zero_min _
          rw [this] at hj; simp at hj
        · rw [at_add]; exact h2
    subst h3
    exact ⟨vs, h5, fun _ => run_firstCells_some (P := P) w es' _ a2 m cap2 vs (by rw [← h5.1, hsl]) h6⟩
  obtain ⟨vs, hp, hfc⟩ := hsrcv
  obtain ⟨w', hst, hr', hlink⟩ := store_left (P := P) hr hk hrw hp (by rw [hsl]; exact hfit)
  refine ⟨goInt (Nat.min m dl), w', ?_, E, rfl, hr', hlink⟩
  have hst' : (storeCells a' vs).run P w = .ok () w' := by
    rcases hcap with hcap | ⟨rfl, _⟩
    · have hd0 : dl = 0 := by omega
      have hn0 : Nat.min m dl = 0 := by rw [hd0]; exact Nat.min_zero _
      have hv0 : vs = [] := by apply List.eq_nil_of_length_eq_zero; rw [← hp.1, hsl, hn0]; simp
      rw [hv0] at hst ⊢
      exact hst
    · exact hst
  simp only [Builtin.copy_, Sem.run_bind, run_underlying hu, Result.andThen_ok, Builtin.lenOf, Sem.run_pure, run_sizeOf' hsz2, hfc w, hst', List.getElem?_toArray, List.getElem?_cons_zero, List.getElem?_cons_succ]

theorem storeA_sound {T : TypeId} {p : Addr} {x x' : Value} {h' : List Blk} (hr : HR E h w) (hx : VR E h.length x x') (hq : storeA P h T p x = some h') :
    ∃ w', (storeVar T (E.at p.block p.off) x').run P w = .ok () w' ∧ HR E h' w' ∧ Link E h w E h' w' := by
  unfold storeA at hq
  obtain ⟨k, hk, hq1⟩ := bind_some' hq
  obtain ⟨cs, hcs, hq2⟩ := bind_some' hq1
  obtain ⟨n, hn, hq3⟩ := bind_some' hq2
  obtain ⟨⟨hrw, hl, hfit⟩, he⟩ := ite_some hq3
  have hp := cellsA_sound hx hcs
  obtain ⟨w', hst, hr', hlink⟩ := store_left (P := P) hr hk hrw hp hfit
  refine ⟨w', ?_, he ▸ hr', he ▸ hlink⟩
  have hsz : x'.cells.size = n := by have := hp.1; simp at this; omega
  simp [storeVar, run_sizeOf' hn, hsz, hst]

/-- Whatever makes or writes memory. -/
theorem mop_sound {o : Oper} {v : Value} {h' : List Blk} (hr : HR E h w) (ht : P2 (VR E h.length) t a.tmps.toList) (hq : mop P t h o.op = some (v, h')) :
    ∃ v' w', ((execOp a.eval o).run P w = .ok (.value v') w' ∨ ((execOp a.eval o).run P w = .ok .skip w' ∧ v' = undef)) ∧ Left E h w v h' v' w' := by
  obtain ⟨dst, op, ty, pos, after, guard⟩ := o
  have evs := fun x => ev_sound ht x
  simp only at hq
  unfold mop at hq
  split at hq
  · rename_i T
    obtain ⟨z, hz, hq1⟩ := bind_some' hq
    obtain ⟨cs, hcs, hq2⟩ := bind_some' hq1
    obtain ⟨hp, he⟩ := ite_some hq2
    cases he
    have hc : P2 (CR E h.length) cs z.cells.toList := by
      refine cellsA_sound (VR.of_plain ?_) hcs
      unfold plainV
      cases z <;> simp only [cellsA, reduceCtorEq, Option.some.injEq] at hcs <;> first
        | (subst hcs; simpa [plain1] using hp)
        | (rename_i r; cases r <;> simp only [reduceCtorEq, Option.some.injEq] at hcs; subst hcs; simp [plainC] at hp)
    refine ⟨_, _, .inl ?_, alloc_left hr (ty := T) hc.row⟩
    simp only [execOp]
    exact run_wrap' (by simp [Instr.alloc, run_zeroValue' hz, newVar, newRow])
  · rename_i T x
    obtain ⟨cs, hcs, he⟩ := map_some' hq
    cases he
    have hc := cellsA_sound (evs x) hcs
    refine ⟨_, _, .inl ?_, alloc_left hr (ty := T) hc.row⟩
    simp only [execOp]
    exact run_wrap' (by simp [Instr.box, newVar, newRow])
  · rename_i T x y
    obtain ⟨p, hp, hq1⟩ := bind_some' hq
    obtain ⟨h1, hs, he⟩ := map_some' hq1
    cases he
    have hx := evs x
    rw [ptrA_spec hp] at hx
    obtain ⟨_, hp'⟩ := hx.ptr
    obtain ⟨w', hrun, hr', hl⟩ := storeA_sound hr (evs y) hs
    refine ⟨undef, w', .inr ⟨?_, rfl⟩, E, VR.junk, hr', hl⟩
    simp only [execOp, hp']
    simp [Instr.storeAt, Instr.sureAddr, hrun]
  · rename_i T len parts
    split at hq
    · rename_i e hu
      obtain ⟨z, hz, hq1⟩ := bind_some' hq
      obtain ⟨zs, hzs, hq2⟩ := bind_some' hq1
      split at hq2
      · rename_i hle
        obtain ⟨cs, hcs, he⟩ := map_some' hq2
        cases he
        obtain ⟨hpl, hzl, hz3⟩ := zerosA_sound (P := P) hz hzs
        obtain ⟨hrun, hzeq⟩ := hz3 w
        generalize hZ : (if len * z = 0 then #[] else ((tzero P e).getD J).cells) = Z at hzeq
        have hzp : P2 (CR E h.length) zs ((Array.range (len * z)).map (Z[· % Z.size]!)).toList := by
          rw [hzeq]; exact P2.of_plain hpl fun _ h => CR.of_plain h
        have hparts : ∀ (i : Nat) p p', (parts.toList.map fun p => (p.1, ev t p.2))[i]? = some p → ((parts.map fun (i, x) => (i, a.eval x)).toList)[i]? = some p' → p'.1 = p.1 ∧ VR E h.length p.2 p'.2 := fun i p p' h1 h2 => by
          simp only [List.getElem?_map, Array.toList_map] at h1 h2
          cases hi : parts.toList[i]? with
          | none => simp [hi] at h1
          | some q => simp only [hi, Option.map_some, Option.some.injEq] at h1 h2; subst h1; subst h2; exact ⟨rfl, ev_sound ht _⟩
        obtain ⟨ds', h1, h2⟩ := fillA_sound (place' := fun i => some (i * z, z)) (fun i os h => h) _ _ _ cs _ hzp (by simp) hparts hcs
        have hdl : ds'.size = len * z := by
          have := fillA_length _ _ cs () hcs
          have h3 := h2.1
          simp at h3
          omega
        refine ⟨_, _, .inl ?_, alloc_left_slice hr (ty := e) h2.row (Nat.le_refl len) (by omega)⟩
        simp only [execOp]
        refine run_wrap' ?_
        unfold Instr.buildSlice
        simp only [Sem.run_bind, run_underlying hu, Result.andThen_ok, run_sizeOf' hz]
        rw [if_neg (by omega)]
        have h1' : Instr.fill (fun i => some (i * z, z)) ((Array.range (len * z)).map (Z[· % Z.size]!)) (parts.map fun (i, x) => (i, a.eval x)).toList = some ds' := h1
        split
        · rename_i h0
          rw [if_pos h0] at hZ
          subst hZ
          simp only [Sem.run_bind, Sem.run_pure, Result.andThen_ok, h1', newRow, run_newObj, World.alloc_eq]
        · rename_i h0
          rw [if_neg h0] at hZ
          subst hZ
          simp only [Sem.run_bind, Sem.run_pure, hrun, Result.andThen_ok, h1', newRow, run_newObj, World.alloc_eq]
      · cases hq2
    · cases hq
  · rename_i T l c
    obtain ⟨n, hn, hq1⟩ := bind_some' hq
    obtain ⟨n', hn', hq2⟩ := bind_some' hq1
    clear hq hq1
    split at hq2
    · rename_i e hu
      obtain ⟨z, hz, hq3⟩ := bind_some' hq2
      obtain ⟨by', hby, hq4⟩ := bind_some' hq3
      obtain ⟨zs, hzs, hq5⟩ := bind_some' hq4
      obtain ⟨⟨h1, h0, hb0, hroom⟩, he⟩ := ite_some hq5
      cases he
      obtain ⟨kl, hl⟩ := intA_spec hn
      obtain ⟨kc, hc⟩ := intA_spec hn'
      have el := (hl ▸ evs l).int
      have ec := (hc ▸ evs c).int
      subst h1
      obtain ⟨hpl, hzl, hz3⟩ := zerosA_sound (P := P) hz hzs
      obtain ⟨hrun, hzeq⟩ := hz3 w
      generalize hZ : (if n'.toNat * z = 0 then #[] else ((tzero P e).getD J).cells) = Z at hzeq
      have hzp : P2 (CR E h.length) zs ((Array.range (n'.toNat * z)).map (Z[· % Z.size]!)).toList := by
        rw [hzeq]; exact P2.of_plain hpl fun _ h => CR.of_plain h
      refine ⟨_, _, .inl ?_, alloc_left_slice hr (ty := e) hzp.row (Nat.le_refl n'.toNat) (z := z) (by simp)⟩
      simp only [execOp]
      refine run_wrap' ?_
      unfold roomOk at hroom
      have hn1 : n'.toNat ≤ n'.toNat * by' := Nat.le_mul_of_pos_right _ hb0
      have hwrap : IntKind.i64.wrap n' = n' := IntWalk.i64_in _ ⟨by omega, by omega⟩
      unfold tbytes at hby
      obtain ⟨inf, hinf, hbytes⟩ := map_some' hby
      have hmul : (by' : Int) * n' ≤ 140737488355328 := by
        have : n' = (n'.toNat : Int) := by omega
        rw [this, ← Int.natCast_mul, Nat.mul_comm]; omega
      unfold Instr.makeSlice
      simp only [el, ec, Sem.run_bind, run_underlying hu, Result.andThen_ok, asInt, asIntOf, Sem.run_pure, typeInfo, run_program, hinf, hbytes, hwrap]
      rw [if_neg (by simp; omega)]
      simp only [Sem.run_bind, run_askRoom, Result.andThen_ok, run_sizeOf' hz]
      split
      · rename_i h0
        rw [if_pos h0] at hZ
        subst hZ
        simp only [Sem.run_bind, Sem.run_pure, Result.andThen_ok, newRow, run_newObj, World.alloc_eq]
      · rename_i h0
        rw [if_neg h0] at hZ
        subst hZ
        simp only [Sem.run_bind, Sem.run_pure, hrun, Result.andThen_ok, newRow, run_newObj, World.alloc_eq]
    · cases hq2
  · rename_i c
    split at hq
    · rename_i hc
      split at hq
      · rename_i s x T T' hargs htypes
        obtain ⟨v', w', hrun, hleft⟩ := appendA_sound (P := P) (ty := ty) hr (evs s) (evs x) hq
        refine ⟨v', w', .inl (run_builtin' hc hargs htypes fun consts => ?_), hleft⟩
        exact run_wrap' hrun
      · cases hq
    · rename_i hc
      split at hq
      · rename_i s x T Ts hargs htypes
        obtain ⟨v', w', hrun, hleft⟩ := copyA_sound (P := P) (ty := ty) (ts := Ts) hr (evs s) (evs x) hq
        refine ⟨v', w', .inl (run_builtin' hc hargs htypes fun consts => ?_), hleft⟩
        exact run_wrap' hrun
      · cases hq
    · cases hq
  · cases hq

end
end Go.Abs
