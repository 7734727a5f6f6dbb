/- The abstract machine, part B: the operations that only look (arithmetic, loads, addresses, parts of values), and that the model's own run of each agrees. Generic: no program in sight. -/
import Derived.Test.YtalbdgkbinndlaaDoorAbsA
import Derived.Test.YtalbdgkbinndlaaDoorAbsK
namespace Go.Abs
set_option linter.unusedSimpArgs false
set_option linter.unusedVariables false
set_option maxRecDepth 20000
set_option maxHeartbeats 1000000

/-- What an operand is worth. -/
def ev (t : List Value) : Operand → Value
  | .tmp i => (t[i]?).getD J
  | .const v => if plainV v then v else J
  | .global _ => J
  | .func f => .func (.func f) #[] #[]

def tsz (P : Program) (T : TypeId) : Option Nat := (P.info? T).map (·.size)
def tzero (P : Program) (T : TypeId) : Option Value := (P.info? T).bind (·.zero)
def tbytes (P : Program) (T : TypeId) : Option Nat := (P.info? T).map (·.bytes)
def tagg (P : Program) (T : TypeId) : Option Bool := (P.underlying T).map fun d => match d with | .struct _ | .array _ _ => true | _ => false

def sub (l : List Value) (off n : Nat) : List Value := (l.drop off).take n

def cellsA : Value → Option (List Value)
  | .agg cs => some cs.toList
  | .tuple _ => none
  | .chan none => none
  | v => some [v]

def splice (l : List Value) (off : Nat) (cs : List Value) : List Value := l.take off ++ cs ++ l.drop (off + cs.length)

theorem splice_length {l cs : List Value} {off : Nat} (h : off + cs.length ≤ l.length) : (splice l off cs).length = l.length := by
  unfold splice; simp; omega

theorem splice_get {l cs : List Value} {off i : Nat} (h : off + cs.length ≤ l.length) : (splice l off cs)[i]? = if off ≤ i ∧ i < off + cs.length then cs[i - off]? else l[i]? := by
  unfold splice
  rw [List.append_assoc, List.getElem?_append, List.length_take, Nat.min_eq_left (by omega)]
  by_cases h1 : i < off
  · rw [if_pos h1, if_neg (by omega), List.getElem?_take, if_pos h1]
  · rw [if_neg h1, List.getElem?_append]
    by_cases h2 : i - off < cs.length
    · rw [if_pos h2, if_pos (by omega)]
    · rw [if_neg h2, if_neg (by omega), List.getElem?_drop]
      congr 1; omega

theorem splice_one {l : List Value} {off : Nat} {c : Value} (h : off < l.length) : splice l off [c] = l.set off c := by
  apply List.ext_getElem?
  intro i
  rw [splice_get (by simp; omega), List.getElem?_set]
  by_cases hi : off = i
  · subst hi; simp [h]
  · rw [if_neg hi, if_neg (by simp; omega)]

theorem splice_all {l cs : List Value} (h : cs.length = l.length) : splice l 0 cs = cs := by
  unfold splice; simp [h]

def loadA (P : Program) (h : List Blk) (T : TypeId) (p : Addr) : Option Value :=
  match tagg P T with
  | some false => (h[p.block]?).bind fun k => k.cells[p.off]?
  | some true => (tsz P T).bind fun n => (h[p.block]?).bind fun k => if p.off + n ≤ k.cells.length then some (.agg (sub k.cells p.off n).toArray) else none
  | none => none

def partA (P : Program) (T : TypeId) (cs : List Value) (off : Nat) : Option Value :=
  match tagg P T with
  | some false => cs[off]?
  | some true => (tsz P T).bind fun n => if off + n ≤ cs.length then some (.agg (sub cs off n).toArray) else none
  | none => none

def aidx (n : Int) (len : Nat) : Option Nat := if 0 ≤ n ∧ n < len then some n.toNat else none

/-- Two-place operators on integers. -/
def ibin (op : BinOp) (k : IntKind) (a b : Int) : Option Value :=
  match op with
  | .add => some (.int k (k.wrap (a + b)))
  | .sub => some (.int k (k.wrap (a - b)))
  | .mul => some (.int k (k.wrap (a * b)))
  | .quo => if b = 0 then none else some (.int k (k.wrap (a.tdiv b)))
  | .rem => if b = 0 then none else some (.int k (a.tmod b))
  | .and => some (.int k (bits .and k a b))
  | .or => some (.int k (bits .or k a b))
  | .xor => some (.int k (bits .xor k a b))
  | .andNot => some (.int k (bits .andNot k a b))
  | .eql => some (.bool (a == b))
  | .neq => some (.bool (a != b))
  | .lss => some (.bool (a < b))
  | .leq => some (.bool (a ≤ b))
  | .gtr => some (.bool (a > b))
  | .geq => some (.bool (a ≥ b))
  | _ => none

def sbin (op : BinOp) (x y : ByteArray) : Option Value :=
  match op with
  | .add => if ((x.size + y.size : Nat) : Int) > IntKind.i64.max then none else some (.string (x ++ y))
  | .eql => some (.bool (x.toList == y.toList))
  | .neq => some (.bool !(x.toList == y.toList))
  | _ => none

def isBoolT (P : Program) (T : TypeId) : Bool := match P.underlying T with | some .bool => true | _ => false

def isSliceT (P : Program) (T : TypeId) : Bool := match P.underlying T with | some (.slice _) => true | _ => false

/-- Are two arrays or structs equal? -/
def aeq (P : Program) (T : TypeId) (a b : List Value) : Option Bool :=
  (kinds P 8 T).bind fun ks => if P.eqGuardType P.depth T = false ∧ P.keyTypeAt 8 T = true ∧ tagg P T = some true ∧ ks.length = P.cellsOf T ∧ oks ks a = true ∧ oks ks b = true then some (leq a b) else none

def abin (P : Program) (op : BinOp) (T : TypeId) (x y : Value) : Option Value :=
  match op, x, y with
  | .shl, .int k a, .int _ b => if b < 0 then none else some (.int k (k.wrap (a * 2 ^ (min b.toNat k.bits))))
  | .shr, .int k a, .int _ b => if b < 0 then none else some (.int k (a.fdiv (2 ^ (min b.toNat k.bits))))
  | op, .int k a, .int k' b => if k = k' then ibin op k a b else none
  | op, .string a, .string b => sbin op a b
  | .eql, .bool a, .bool b => if isBoolT P T then some (.bool (a == b)) else none
  | .neq, .bool a, .bool b => if isBoolT P T then some (.bool (!(a == b))) else none
  | .eql, .agg a, .agg b => (aeq P T a.toList b.toList).map fun r => .bool r
  | .neq, .agg a, .agg b => (aeq P T a.toList b.toList).map fun r => .bool (!r)
  | .eql, .slice a _ _, .slice none 0 0 => if isSliceT P T then some (.bool a.isNone) else none
  | .neq, .slice a _ _, .slice none 0 0 => if isSliceT P T then some (.bool (!a.isNone)) else none
  | _, _, _ => none

def aun (op : UnOp) (x : Value) : Option Value :=
  match op, x with
  | .neg, .int k n => some (.int k (k.wrap (0 - n)))
  | .xor, .int k n => some (.int k (bits .xor k (if k.signed then -1 else k.max) n))
  | .not, .bool b => some (.bool !b)
  | _, _ => none

def ptrA : Value → Option Addr | .pointer (some p) => some p | _ => none
def intA : Value → Option Int | .int _ n => some n | _ => none
def boolA : Value → Option Bool | .bool b => some b | _ => none
def boolG : Value → Option (Option Bool) | .bool b => some (some b) | .tuple vs => if vs.size = 0 then some none else none | _ => none
def aggA : Value → Option (List Value) | .agg cs => some cs.toList | _ => none
def strA : Value → Option ByteArray | .string s => some s | _ => none
def slA : Value → Option (Addr × Nat × Nat) | .slice (some p) l es => some (p, l, es) | _ => none

def lowA : Option Value → Option Nat
  | none => some 0
  | some v => (intA v).bind fun n => if 0 ≤ n then some n.toNat else none

def highA (d : Nat) : Option Value → Option Nat
  | none => some d
  | some v => (intA v).bind fun n => aidx n (d + 1)

def aslice (P : Program) (hp : List Blk) (T : TypeId) (x : Value) (lo hi : Option Value) : Option Value :=
  (lowA lo).bind fun l =>
  match P.underlying T with
  | some (.array n e) => (ptrA x).bind fun p => (highA n hi).bind fun h => (tsz P e).bind fun z => (hp[p.block]?).bind fun k =>
    if l ≤ h ∧ p.off + n * z ≤ k.cells.length then some (.slice (some ⟨p.block, p.off + l * z, none⟩) (h - l) z) else none
  | some (.slice e) =>
    match x with
    | .slice none 0 0 => (highA 0 hi).bind fun h => (tsz P e).bind fun _ => if l ≤ h then some (.slice none 0 0) else none
    | x => (slA x).bind fun s => (highA s.2.1 hi).bind fun h => (tsz P e).bind fun z =>
      if l ≤ h ∧ z = s.2.2 then some (.slice (some ⟨s.1.block, s.1.off + l * z, none⟩) (h - l) z) else none
  | some .string => (strA x).bind fun s => (highA s.size hi).bind fun h => if l ≤ h then some (.string (s.extract l h)) else none
  | _ => none

/-- Minimum and maximum of integers. -/
def amin (x y : Value) : Option Value :=
  match x with
  | .int k a => (intA y).map fun b => .int k (if b < a then b else a)
  | _ => none
def amax (x y : Value) : Option Value :=
  match x with
  | .int k a => (intA y).map fun b => .int k (if b > a then b else a)
  | _ => none

def lenA : Value → Option Nat | .slice _ n _ => some n | _ => none

def alen (P : Program) (T : TypeId) (x : Value) : Option Value :=
  match P.underlying T with
  | some .string => (strA x).map fun s => .int .i64 s.size
  | some (.array n _) => some (.int .i64 n)
  | some (.slice _) => (lenA x).map fun n => .int .i64 n
  | _ => none

/-- The capacity of a nil slice. -/
def acap (P : Program) (T : TypeId) (x : Value) : Option Value :=
  match x with
  | .slice none 0 c => if isSliceT P T then some (.int .i64 c) else none
  | _ => none

def pickA (c a b : Value) : Option Value := (boolA c).map fun v => if v then a else b

def convA (P : Program) (src dst : TypeId) (x : Value) : Option Value :=
  (P.underlying src).bind fun _ =>
  match P.underlying dst with
  | some (.int k) => (intA x).map fun n => .int k (k.wrap n)
  | _ => none

def fieldsA (P : Program) (S : TypeId) : Option (Array Field) := match P.underlying S with | some (.struct fs) => some fs | _ => none

def idxAddrA (P : Program) (T : TypeId) (x ix : Value) : Option Value :=
  match P.underlying T with
  | some (.array len e) => (ptrA x).bind fun p => (intA ix).bind fun n => (aidx n len).bind fun i => (tsz P e).map fun z => .pointer (some ⟨p.block, p.off + i * z, none⟩)
  | some (.slice e) => (slA x).bind fun s => (intA ix).bind fun n => (aidx n s.2.1).bind fun i => (tsz P e).bind fun z => if z = s.2.2 then some (.pointer (some ⟨s.1.block, s.1.off + i * z, none⟩)) else none
  | _ => none

def indexA (P : Program) (T : TypeId) (x ix : Value) : Option Value :=
  match P.underlying T with
  | some (.array len e) => (aggA x).bind fun cs => (intA ix).bind fun n => (aidx n len).bind fun i => (tsz P e).bind fun z => partA P e cs (i * z)
  | some .string => (strA x).bind fun s => (intA ix).bind fun n => (aidx n s.size).bind fun i => (s.data[i]?).map fun b => .int .u8 b.toNat
  | _ => none

def extractA (x : Value) (i : Nat) : Option Value := match x with | .tuple vs => vs.toList[i]? | _ => none

def toArrPtrA (P : Program) (T : TypeId) (x : Value) : Option Value :=
  match P.underlying T with
  | some (.array n _) => (slA x).bind fun s => if 0 < n ∧ n ≤ s.2.1 then some (.pointer (some s.1)) else none
  | _ => none

def mapO {α β : Type} (f : α → Option β) : List α → Option (List β)
  | [] => some []
  | x :: l => (f x).bind fun y => (mapO f l).map (y :: ·)

def fillA (place : Nat → Option (Nat × Nat)) (cells : List Value) : List (Nat × Value) → Option (List Value)
  | [] => some cells
  | p :: rest => (place p.1).bind fun os => (cellsA p.2).bind fun vc => if vc.length = os.2 ∧ os.1 + os.2 ≤ cells.length then fillA place (splice cells os.1 vc) rest else none

def placesA (P : Program) (T : TypeId) : Option (List (Nat × Nat)) :=
  (fieldsA P T).bind fun fs => mapO (fun f => (tsz P f.type).map fun n => (f.offset, n)) fs.toList

def buildA (P : Program) (T : TypeId) (parts : List (Nat × Value)) : Option Value :=
  (tzero P T).bind fun z => (aggA z).bind fun zs =>
  if zs.all plainC = true then
    (match P.underlying T with
      | some (.struct _) => (placesA P T).bind fun pl => fillA (pl[·]?) zs parts
      | some (.array _ e) => (tsz P e).bind fun n => fillA (fun i => some (i * n, n)) zs parts
      | _ => none).map fun (cs : List Value) => Value.agg cs.toArray
  else none

def bytesA : List Value → Option (List UInt8)
  | [] => some []
  | .int .u8 n :: l => (bytesA l).map (UInt8.ofNat n.toNat :: ·)
  | _ => none

def isU8T (P : Program) (T : TypeId) : Bool := match P.underlying T with | some (.int .u8) => true | _ => false

/-- A slice of bytes made into a string. -/
def strOfA (P : Program) (hp : List Blk) (src : TypeId) (x : Value) : Option Value :=
  match P.underlying src with
  | some (.slice e) => if isU8T P e = true then
      (slA x).bind fun s => (hp[s.1.block]?).bind fun k => if s.1.off + s.2.1 ≤ k.cells.length then (bytesA (sub k.cells s.1.off s.2.1)).map fun bs => .string ⟨bs.toArray⟩ else none
    else none
  | _ => none

def convS (P : Program) (hp : List Blk) (src dst : TypeId) (x : Value) : Option Value :=
  match P.underlying dst with
  | some .string => strOfA P hp src x
  | _ => convA P src dst x

/-- The built-in functions that only look. -/
def bop (P : Program) (t : List Value) (b : Builtin) (args : List Operand) (types : List TypeId) : Option Value :=
  match b with
  | .len => match args, types with | [x], [T] => alen P T (ev t x) | _, _ => none
  | .cap => match args, types with | [x], [T] => acap P T (ev t x) | _, _ => none
  | .min => match args with | [x, y] => amin (ev t x) (ev t y) | _ => none
  | .max => match args with | [x, y] => amax (ev t x) (ev t y) | _ => none
  | _ => none

/-- The operations that only look. -/
def qop (P : Program) (t : List Value) (h : List Blk) : Op → Option Value
  | .move x => some (ev t x)
  | .assign x => some (ev t x)
  | .pick c a b => pickA (ev t c) (ev t a) (ev t b)
  | .load T a => (ptrA (ev t a)).bind fun p => loadA P h T p
  | .nilCheck x => (ptrA (ev t x)).map fun p => .pointer (some p)
  | .binOp op T x y _ => abin P op T (ev t x) (ev t y)
  | .unOp op _ x => aun op (ev t x)
  | .convert src dst x => convS P h src dst (ev t x)
  | .build T parts => buildA P T (parts.toList.map fun p => (p.1, ev t p.2))
  | .fieldAddr S x f => (fieldsA P S).bind fun fs => (ptrA (ev t x)).bind fun p => (fs[f]?).bind fun fl => (tsz P fl.type).bind fun z => if z = 0 then none else some (.pointer (some ⟨p.block, p.off + fl.offset, none⟩))
  | .field S x f => (fieldsA P S).bind fun fs => (aggA (ev t x)).bind fun cs => (fs[f]?).bind fun fl => partA P fl.type cs fl.offset
  | .indexAddr T x ix => idxAddrA P T (ev t x) (ev t ix)
  | .index T x ix => indexA P T (ev t x) (ev t ix)
  | .slice T x lo hi none => aslice P h T (ev t x) (lo.map (ev t)) (hi.map (ev t))
  | .extract x i => extractA (ev t x) i
  | .sliceToArrayPointer T x => toArrPtrA P T (ev t x)
  | .call c => match c.callee with | .builtin b => bop P t b c.args.toList c.argTypes.toList | _ => none
  | _ => none

/-- In the later world every block of the earlier one is as it was. -/
def Same (w w' : World) : Prop := ∀ i, i < w.heap.size → w'.heap[i]? = w.heap[i]?

theorem Same.refl (w : World) : Same w w := fun _ _ => rfl

theorem Same.cell {w w' : World} (h : Same w w') {a : Addr} {v : Value} (hc : w.cell? a = some v) : w'.cell? a = some v := by
  rw [World.cell?_of_block (h a.block (World.block_lt_of_cell? w a hc))]; exact hc

/-- In the later world the cells of these blocks are as they were. -/
def SOn (E : Emb) (h : List Blk) (w w' : World) : Prop := ∀ (b : Nat) (k : Blk) (i : Nat), h[b]? = some k → i < k.cells.length → w'.cell? (E.at b i) = w.cell? (E.at b i)

theorem SOn.refl (E : Emb) (h : List Blk) (w : World) : SOn E h w w := fun _ _ _ _ _ => rfl

theorem SOn.cell {E : Emb} {h : List Blk} {w w' : World} (hs : SOn E h w w') {b i : Nat} {k : Blk} {v : Value} (hb : h[b]? = some k) (hi : i < k.cells.length) (hc : w.cell? (E.at b i) = some v) : w'.cell? (E.at b i) = some v :=
  (hs b k i hb hi).trans hc

theorem Same.sOn {E : Emb} {h : List Blk} {w w' : World} (hr : HR E h w) (hs : Same w w') : SOn E h w w' := fun b k i hb hi => by
  obtain ⟨y, hy, _⟩ := hr.cell b k i _ hb (List.getElem?_eq_getElem hi)
  rw [hy, hs.cell hy]

section
variable {P : Program} {E : Emb} {t : List Value} {h : List Blk} {w : World} {a : Act}

theorem ev_sound {n : Nat} (ht : P2 (VR E n) t a.tmps.toList) (x : Operand) : VR E n (ev t x) (a.eval x) := by
  cases x with
  | tmp i =>
    simp only [ev, Act.eval]
    cases hi : t[i]? with
    | none => exact VR.junk
    | some u =>
      obtain ⟨y, hy, hr⟩ := ht.get hi
      have : a.tmps.getD i undef = y := by
        simp only [Array.getElem?_toList] at hy
        simp [Array.getD_eq_getD_getElem?, hy]
      rw [this]; exact hr
  | const v =>
    simp only [ev, Act.eval]
    split
    · rename_i hp; exact VR.of_plain hp
    · exact VR.junk
  | global g => exact VR.junk
  | func f => exact rfl

theorem run_isAgg' {T : TypeId} {b : Bool} (hb : tagg P T = some b) (w : World) : (isAgg T).run P w = .ok b w := by
  unfold tagg at hb
  cases hu : P.underlying T with
  | none => simp [hu] at hb
  | some d =>
    simp only [hu, Option.map_some, Option.some.injEq] at hb
    unfold isAgg
    rw [Sem.run_bind, run_underlying hu w]
    simp only [Result.andThen_ok]
    rw [← hb]
    cases d <;> rfl

theorem run_sizeOf' {T : TypeId} {n : Nat} (hn : tsz P T = some n) (w : World) : (sizeOf T).run P w = .ok n w := by
  unfold tsz at hn
  cases hi : P.info? T with
  | none => simp [hi] at hn
  | some i =>
    simp only [hi, Option.map_some, Option.some.injEq] at hn
    simp [sizeOf, typeInfo, hi, hn]

theorem run_zeroValue' {T : TypeId} {v : Value} (hn : tzero P T = some v) (w : World) : (zeroValue T).run P w = .ok v w := by
  unfold tzero at hn
  cases hi : P.info? T with
  | none => simp [hi] at hn
  | some i =>
    simp only [hi, Option.bind_some] at hn
    simp [zeroValue, typeInfo, hi, hn]

theorem add_off (b o n : Nat) : Addr.add ⟨b, o, none⟩ n = ⟨b, o + n, none⟩ := by unfold Addr.add; split <;> simp_all

theorem at_add (E : Emb) (b o n : Nat) : Addr.add (E.at b o) n = E.at b (o + n) := by rw [Emb.at, add_off, Nat.add_assoc]

theorem sub_get {l : List Value} {off n i : Nat} (hi : i < n) : (sub l off n)[i]? = l[off + i]? := by
  unfold sub; rw [List.getElem?_take, if_pos hi, List.getElem?_drop]

theorem sub_length {l : List Value} {off n : Nat} (h : off + n ≤ l.length) : (sub l off n).length = n := by
  unfold sub; simp; omega

theorem VR1.to_VR {n : Nat} {u v : Value} (h : VR1 E n u v) : VR E n u v := by
  cases u <;> first | exact h | exact (show False from h).elim

theorem CR.to_VR1 {n : Nat} {u v : Value} (h : CR E n u v) : VR1 E n u v := by
  cases u with
  | chan r => cases r with
    | none => trivial
    | some r => exact h
  | agg _ => exact (show False from h).elim
  | _ => exact h

theorem CR.to_VR {n : Nat} {u v : Value} (h : CR E n u v) : VR E n u v := by
  have h1 := h.to_VR1
  cases u <;> first | exact h1 | exact (show False from h).elim

/-- A load, in every world that has what was there. -/
theorem loadA_sound {T : TypeId} {p : Addr} {v : Value} (hr : HR E h w) (hl : loadA P h T p = some v) :
    ∃ v', VR E h.length v v' ∧ ∀ w', SOn E h w w' → (loadVar T (E.at p.block p.off)).run P w' = .ok v' w' := by
  unfold loadA at hl
  split at hl
  · rename_i hb
    cases hk : h[p.block]? with
    | none => simp [hk] at hl
    | some k =>
      simp only [hk, Option.bind_some] at hl
      obtain ⟨y, hy, hc⟩ := hr.cell _ _ _ _ hk hl
      refine ⟨y, hc.to_VR, fun w' hs => ?_⟩
      have := hs.cell hk (List.getElem?_eq_some_iff.1 hl).1 hy
      simp [loadVar, run_isAgg' hb, this]
  · rename_i hb
    cases hn : tsz P T with
    | none => simp [hn] at hl
    | some n =>
      cases hk : h[p.block]? with
      | none => simp [hn, hk] at hl
      | some k =>
        simp only [hn, hk, Option.bind_some] at hl
        split at hl
        · rename_i hle
          cases hl
          let f : Nat → Value := fun j => (w.cell? (E.at p.block (p.off + j))).getD undef
          have hf : ∀ j, j < n → ∃ x, k.cells[p.off + j]? = some x ∧ w.cell? (E.at p.block (p.off + j)) = some (f j) ∧ CR E h.length x (f j) := fun j hj => by
            have hj' : p.off + j < k.cells.length := by omega
            obtain ⟨y, hy, hc⟩ := hr.cell _ _ _ _ hk (List.getElem?_eq_getElem hj')
            exact ⟨_, List.getElem?_eq_getElem hj', by simp [f, hy], by simpa [f, hy] using hc⟩
          refine ⟨.agg ((List.range n).map f).toArray, ⟨_, rfl, ?_⟩, fun w' hs => ?_⟩
          · refine P2.of_get (by simp [sub_length hle]) fun i x hx => ?_
            have hi : i < n := by have := (List.getElem?_eq_some_iff.1 hx).1; simpa [sub_length hle] using this
            obtain ⟨x', h1, _, h3⟩ := hf i hi
            simp only [sub_get hi] at hx
            rw [h1] at hx; cases hx
            exact ⟨f i, by simp [hi], h3⟩
          · have h1 := run_loadCells (P := P) w' (E.at p.block p.off) n f fun j hj => by
              obtain ⟨_, _, h2, _⟩ := hf j hj
              rw [at_add]; exact hs.cell hk (by omega) h2
            simp [loadVar, run_isAgg' hb, run_sizeOf' hn, h1]
        · cases hl
  · cases hl

theorem partA_sound {n : Nat} {T : TypeId} {cs : List Value} {ds : Array Value} {off : Nat} {v : Value} (hc : P2 (CR E n) cs ds.toList) (hl : partA P T cs off = some v) :
    ∃ v', VR E n v v' ∧ ∀ w', (part T ds off).run P w' = .ok v' w' := by
  unfold partA at hl
  split at hl
  · rename_i hb
    obtain ⟨y, hy, hr⟩ := hc.get hl
    simp only [Array.getElem?_toList] at hy
    exact ⟨y, hr.to_VR, fun w' => by simp [part, run_isAgg' hb, hy]⟩
  · rename_i hb
    cases hn : tsz P T with
    | none => simp [hn] at hl
    | some m =>
      simp only [hn, Option.bind_some] at hl
      split at hl
      · rename_i hle
        cases hl
        refine ⟨.agg (ds.extract off (off + m)), ⟨_, rfl, ?_⟩, fun w' => by simp [part, run_isAgg' hb, run_sizeOf' hn]⟩
        simp only [Array.toList_extract, List.extract_eq_take_drop]
        have := (hc.drop off).take m
        simpa [sub] using this
      · cases hl
  · cases hl

theorem VR.ptr {n : Nat} {p : Addr} {v : Value} (h : VR E n (.pointer (some p)) v) : p.block < n ∧ v = .pointer (some (E.at p.block p.off)) := ⟨h.2.1, h.2.2⟩

theorem VR.int {n : Nat} {k : IntKind} {x : Int} {v : Value} (h : VR E n (.int k x) v) : v = .int k x := h
theorem VR.bool {n : Nat} {x : Bool} {v : Value} (h : VR E n (.bool x) v) : v = .bool x := h
theorem VR.string {n : Nat} {x : ByteArray} {v : Value} (h : VR E n (.string x) v) : v = .string x := h

theorem ibin_sound {op : BinOp} {k : IntKind} {x y : Int} {v : Value} (h : ibin op k x y = some v) (T : TypeId) (w : World) (h1 : op ≠ .shl) (h2 : op ≠ .shr) :
    (binOp op T (.int k x) (.int k y)).run P w = .ok v w := by
  cases op <;> simp only [ibin, Option.some.injEq] at h <;> first | exact absurd rfl h1 | exact absurd rfl h2 | skip
  all_goals try (subst h)
  all_goals try (simp [binOp, Op.intArith, Op.intCmp, Op.intBits, bits]; done)
  all_goals (split at h <;> simp only [Option.some.injEq, reduceCtorEq] at h; subst h; simp [binOp, Op.intDiv, *])

theorem run_equalIn_bool {T : TypeId} (hu : P.underlying T = some .bool) (d : Nat) (x y : Bool) (w : World) : (Op.equalIn (d + 1) T (.bool x) (.bool y)).run P w = .ok (x == y) w := by
  rw [Op.equalIn]
  simp only [Sem.run_bind, run_underlying hu, Result.andThen_ok, Sem.run_pure]

theorem run_equal_bool {T : TypeId} (hu : P.underlying T = some .bool) (x y : Bool) (w : World) : (Op.equalIn Op.maxDepth T (.bool x) (.bool y)).run P w = .ok (x == y) w :=
  run_equalIn_bool hu 9999 x y w

theorem isBoolT_spec {T : TypeId} (h : isBoolT P T = true) : P.underlying T = some .bool := by
  unfold isBoolT at h
  split at h
  · assumption
  · cases h

theorem run_eql_bool {T : TypeId} (hu : P.underlying T = some .bool) (x y : Bool) (w : World) : (binOp .eql T (.bool x) (.bool y)).run P w = .ok (.bool (x == y)) w := by
  simp only [binOp, Op.equal, Sem.run_bind, run_equal_bool hu, Result.andThen_ok, Sem.run_pure]

theorem run_neq_bool {T : TypeId} (hu : P.underlying T = some .bool) (x y : Bool) (w : World) : (binOp .neq T (.bool x) (.bool y)).run P w = .ok (.bool (!(x == y))) w := by
  simp only [binOp, Op.equal, Sem.run_bind, run_equal_bool hu, Result.andThen_ok, Sem.run_pure]

theorem run_shl {T : TypeId} {k k' : IntKind} {x y : Int} (h : ¬ y < 0) (w : World) : (binOp .shl T (.int k x) (.int k' y)).run P w = .ok (.int k (k.wrap (x * 2 ^ (min y.toNat k.bits)))) w := by
  rw [binOp_shl]; unfold Op.shift; rw [if_neg h]; rfl

theorem run_shr {T : TypeId} {k k' : IntKind} {x y : Int} (h : ¬ y < 0) (w : World) : (binOp .shr T (.int k x) (.int k' y)).run P w = .ok (.int k (x.fdiv (2 ^ (min y.toNat k.bits)))) w := by
  rw [binOp_shr]; unfold Op.shift; rw [if_neg h]; rfl

theorem run_add_string {T : TypeId} {x y : ByteArray} (h : ¬ ((x.size + y.size : Nat) : Int) > IntKind.i64.max) (w : World) : (binOp .add T (.string x) (.string y)).run P w = .ok (.string (x ++ y)) w := by
  show (Op.stringOp .add x y).run P w = _
  unfold Op.stringOp
  simp only
  rw [if_neg h]; rfl

theorem oks_plain : ∀ {ks : List CK} {cs : List Value}, oks ks cs = true → cs.all plainC = true
  | [], [], _ => rfl
  | k :: ks, v :: vs, h => by
    simp only [oks, Bool.and_eq_true] at h
    simp only [List.all_cons, Bool.and_eq_true]
    refine ⟨?_, oks_plain h.2⟩
    have h1 := h.1
    cases k <;> cases v <;> simp only [CK.ok, Bool.false_eq_true] at h1 <;> rfl
  | [], _ :: _, h => by cases h
  | _ :: _, [], h => by cases h

theorem aeq_sound {T : TypeId} {a b : Array Value} {r : Bool} (h : aeq P T a.toList b.toList = some r) (w : World) :
    plainV (.agg a) = true ∧ plainV (.agg b) = true ∧ (Op.equal T (.agg a) (.agg b)).run P w = .ok r w ∧ ∀ (op : BinOp) (xo yo : Operand) {β : Type} (f : Unit → Sem β), ((eqGuard op T xo yo (.agg a) (.agg b)).bind f).run P w = (f ()).run P w := by
  unfold aeq at h
  obtain ⟨ks, hk, h⟩ := Option.bind_eq_some_iff.1 h
  split at h
  · rename_i hc
    obtain ⟨hg, hm, ha, hl, o1, o2⟩ := hc
    cases h
    refine ⟨oks_plain o1, oks_plain o2, ?_, fun op xo yo β f => ?_⟩
    rotate_left
    · show ((eqGuard op T xo yo (.agg a) (.agg b)) >>= f).run P w = _
      unfold eqGuard
      cases op <;> simp [hg]
    have hu : (∃ n e, P.underlying T = some (.array n e)) ∨ ∃ fs, P.underlying T = some (.struct fs) := by
      unfold tagg at ha
      cases hu : P.underlying T with
      | none => simp [hu] at ha
      | some d => cases d <;> simp_all
    have vo : ∀ c : Array Value, oks ks c.toList = true → valOf P T c.toList (.agg c) := fun c hc => by
      have : c.size = P.cellsOf T := by rw [← hl, ← oks_length hc]; simp
      refine ⟨?_, rfl⟩
      rcases hu with ⟨n, e, hu⟩ | ⟨fs, hu⟩ <;> simp [Value.formed, hu, this]
    exact eqA 8 8 T ks hk hm 9992 w _ _ _ _ (vo a o1) (vo b o2) o1 o2
  · cases h

theorem isSliceT_spec {T : TypeId} (h : isSliceT P T = true) : ∃ e, P.underlying T = some (.slice e) := by
  unfold isSliceT at h
  split at h
  · exact ⟨_, by assumption⟩
  · cases h
theorem run_equal_slice {T e : TypeId} (hu : P.underlying T = some (.slice e)) (a b : Option Addr) (l c l' c' : Nat) (hb : b = none) (w : World) : (Op.equalIn Op.maxDepth T (.slice a l c) (.slice b l' c')).run P w = .ok a.isNone w := by
  show (Op.equalIn (9999 + 1) T _ _).run P w = _
  rw [Op.equalIn]
  subst hb
  cases a <;> simp only [Sem.run_bind, run_underlying hu, Result.andThen_ok, Sem.run_pure, Option.isNone_none, Option.isNone_some]
theorem run_eql_slice {T e : TypeId} (hu : P.underlying T = some (.slice e)) (a : Option Addr) (l c l' c' : Nat) (w : World) : (binOp .eql T (.slice a l c) (.slice none l' c')).run P w = .ok (.bool a.isNone) w := by
  simp only [binOp, Op.equal, Sem.run_bind, run_equal_slice hu a none l c l' c' rfl, Result.andThen_ok, Sem.run_pure]
theorem run_neq_slice {T e : TypeId} (hu : P.underlying T = some (.slice e)) (a : Option Addr) (l c l' c' : Nat) (w : World) : (binOp .neq T (.slice a l c) (.slice none l' c')).run P w = .ok (.bool !a.isNone) w := by
  simp only [binOp, Op.equal, Sem.run_bind, run_equal_slice hu a none l c l' c' rfl, Result.andThen_ok, Sem.run_pure]

theorem abin_sound {n : Nat} {op : BinOp} {T : TypeId} {x y x' y' v : Value} (h : abin P op T x y = some v) (hx : VR E n x x') (hy : VR E n y y') :
    ∃ v', VR E n v v' ∧ ∀ (xo yo : Operand) (w : World), ((eqGuard op T xo yo x' y').bind fun _ => binOp op T x' y').run P w = .ok v' w := by
  have int_case : ∀ (k : IntKind) (p q : Int), op ≠ .shl → op ≠ .shr → ibin op k p q = some v →
      ∃ v', VR E n v v' ∧ ∀ (xo yo : Operand) (w : World), ((eqGuard op T xo yo (.int k p) (.int k q)).bind fun _ => binOp op T (.int k p) (.int k q)).run P w = .ok v' w := fun k p q h1 h2 hi => by
    refine ⟨v, ?_, fun xo yo w => ?_⟩
    · cases op <;> simp only [ibin, Option.some.injEq] at hi <;> first
        | (subst hi; exact rfl)
        | (split at hi <;> simp only [Option.some.injEq, reduceCtorEq] at hi; subst hi; exact rfl)
        | cases hi
    · rw [eqGuard_at_int]
      exact ibin_sound hi T w h1 h2
  unfold abin at h
  split at h
  · rename_i k1 p k2 q
    rw [hx.int, hy.int]
    split at h
    · cases h
    · rename_i hb
      cases h
      refine ⟨_, rfl, fun xo yo w => ?_⟩
      show ((eqGuard .shl T xo yo _ _).bind _).run P w = _
      rw [eqGuard_shl]
      exact run_shl (T := T) (k' := k2) hb w
  · rename_i k1 p k2 q
    rw [hx.int, hy.int]
    split at h
    · cases h
    · rename_i hb
      cases h
      refine ⟨_, rfl, fun xo yo w => ?_⟩
      show ((eqGuard .shr T xo yo _ _).bind _).run P w = _
      rw [eqGuard_shr]
      exact run_shr (T := T) (k' := k2) hb w
  · rename_i hno1 hno2
    rw [hx.int, hy.int]
    split at h
    · rename_i hk
      subst hk
      exact int_case _ _ _ (fun e => hno1 e) (fun e => hno2 e) h
    · cases h
  · rw [hx.string, hy.string]
    unfold sbin at h
    refine ⟨v, ?_, fun xo yo w => ?_⟩
    · split at h
      · split at h
        · cases h
        · cases h; exact rfl
      · cases h; exact rfl
      · cases h; exact rfl
      · cases h
    · rw [eqGuard_at_string]
      split at h
      · split at h
        · cases h
        · rename_i hle
          cases h
          exact run_add_string (T := T) hle w
      · cases h; rfl
      · cases h; rfl
      · cases h
  · rw [hx.bool, hy.bool]
    split at h
    · rename_i hb
      cases h
      refine ⟨_, rfl, fun xo yo w => ?_⟩
      rw [eqGuard_at_bool]
      exact run_eql_bool (isBoolT_spec hb) _ _ w
    · cases h
  · rw [hx.bool, hy.bool]
    split at h
    · rename_i hb
      cases h
      refine ⟨_, rfl, fun xo yo w => ?_⟩
      rw [eqGuard_at_bool]
      exact run_neq_bool (isBoolT_spec hb) _ _ w
    · cases h
  · rename_i a b
    obtain ⟨r, hr, rfl⟩ := Option.map_eq_some_iff.1 h
    obtain ⟨p1, p2, _⟩ := aeq_sound hr default
    rw [hx.plain p1, hy.plain p2]
    refine ⟨_, rfl, fun xo yo w => ?_⟩
    rw [(aeq_sound hr w).2.2.2]
    simp only [binOp, Sem.run_bind, (aeq_sound hr w).2.2.1, Result.andThen_ok, Sem.run_pure]
  · rename_i a b
    obtain ⟨r, hr, rfl⟩ := Option.map_eq_some_iff.1 h
    obtain ⟨p1, p2, _⟩ := aeq_sound hr default
    rw [hx.plain p1, hy.plain p2]
    refine ⟨_, rfl, fun xo yo w => ?_⟩
    rw [(aeq_sound hr w).2.2.2]
    simp only [binOp, Sem.run_bind, (aeq_sound hr w).2.2.1, Result.andThen_ok, Sem.run_pure]
  · split at h
    · rename_i a l c hb
      cases h
      refine ⟨_, rfl, fun xo yo w => ?_⟩
      have hy' : y' = .slice none 0 0 := hy
      rw [hy']
      obtain ⟨e, hu⟩ := isSliceT_spec hb
      cases a with
      | none =>
        have hx' : x' = .slice none l c := hx
        rw [hx', eqGuard_at_slice]
        exact run_eql_slice hu _ _ _ _ _ w
      | some p =>
        obtain ⟨_, _, a', cap, rfl, _⟩ := (show p.spot = none ∧ p.block < n ∧ ∃ a' cap, x' = .slice (some a') l cap ∧ l ≤ cap ∧ (cap = 0 ∨ (a' = E.at p.block p.off ∧ p.off + cap * c ≤ E.room p.block)) from hx)
        rw [eqGuard_at_slice]
        exact run_eql_slice hu _ _ _ _ _ w
    · cases h
  · split at h
    · rename_i a l c hb
      cases h
      refine ⟨_, rfl, fun xo yo w => ?_⟩
      have hy' : y' = .slice none 0 0 := hy
      rw [hy']
      obtain ⟨e, hu⟩ := isSliceT_spec hb
      cases a with
      | none =>
        have hx' : x' = .slice none l c := hx
        rw [hx', eqGuard_at_slice]
        exact run_neq_slice hu _ _ _ _ _ w
      | some p =>
        obtain ⟨_, _, a', cap, rfl, _⟩ := (show p.spot = none ∧ p.block < n ∧ ∃ a' cap, x' = .slice (some a') l cap ∧ l ≤ cap ∧ (cap = 0 ∨ (a' = E.at p.block p.off ∧ p.off + cap * c ≤ E.room p.block)) from hx)
        rw [eqGuard_at_slice]
        exact run_neq_slice hu _ _ _ _ _ w
    · cases h
  · cases h

end
end Go.Abs
