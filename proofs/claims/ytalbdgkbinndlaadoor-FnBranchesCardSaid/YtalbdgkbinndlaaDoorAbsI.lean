/- The abstract machine, part I: operations at a type, reckoned from what is known of the type. Generic: no program in sight. -/
import Derived.Test.YtalbdgkbinndlaaDoorAbsH
namespace Go.Abs
set_option linter.unusedSimpArgs false
set_option linter.unusedVariables false
set_option maxRecDepth 20000
set_option maxHeartbeats 1000000
section
variable {P : Program} {T e : TypeId} {z : Nat}

/-! ### Places in arrays and slices -/
def ixR : Option Nat → Nat → Nat → Nat → Option Value
  | some i, b, o, z => some (pt b (o + i * z))
  | none, _, _, _ => none
@[go_sem] theorem ixR_one (i b o : Nat) : ixR (some i) b o 1 = some (pt b (o + i)) := by simp [ixR]
@[go_sem low] theorem ixR_some (i b o z : Nat) : ixR (some i) b o z = some (pt b (o + i * z)) := nr rfl
theorem ixR_eq (x : Option Nat) (b o z : Nat) : (x.map fun i => Value.pointer (some ⟨b, o + i * z, none⟩)) = ixR x b o z := by cases x <;> rfl

theorem ixa_arr {len : Nat} (hu : P.underlying T = some (.array len e)) (hz : tsz P e = some z) (b o : Nat) (k : IntKind) (n : Int) : idxAddrA P T (pt b o) (.int k n) = ixR (aidx n len) b o z := by
  unfold idxAddrA; rw [hu]
  simp only [ptrA, intA, hz, Option.bind_some, Option.map_some]
  cases aidx n len <;> rfl
theorem ixa_arr_B {len : Nat} (hu : P.underlying T = some (.array len e)) (hz : tsz P e = some z) (b o : Nat) (x : UInt8) : idxAddrA P T (pt b o) (B x) = ixR (aidx x.toNat len) b o z := ixa_arr hu hz b o .u8 _
theorem ixa_sl (hu : P.underlying T = some (.slice e)) (hz : tsz P e = some z) (b o len : Nat) (k : IntKind) (n : Int) : idxAddrA P T (sl b o len z) (.int k n) = ixR (aidx n len) b o z := by
  unfold idxAddrA; rw [hu]
  simp only [slA, intA, hz, Option.bind_some, if_true]
  cases aidx n len <;> rfl
theorem ixa_sl_B (hu : P.underlying T = some (.slice e)) (hz : tsz P e = some z) (b o len : Nat) (x : UInt8) : idxAddrA P T (sl b o len z) (B x) = ixR (aidx x.toNat len) b o z := ixa_sl hu hz b o len .u8 _

/-! ### Parts of values -/
def ixC : Option Nat → List Value → Option Value
  | some i, l => l[i]?
  | none, _ => none
@[go_sem] theorem ixC_some (i : Nat) (l : List Value) : ixC (some i) l = l[i]? := nr rfl
def rowC (l : List Value) (o n : Nat) : Option Value := if o + n ≤ l.length then some (.agg (sub l o n).toArray) else none
def ixW : Option Nat → List Value → Nat → Option Value
  | some i, l, z => rowC l (i * z) z
  | none, _, _ => none
@[go_sem] theorem ixW_some (i z : Nat) (l : List Value) : ixW (some i) l z = rowC l (i * z) z := nr rfl
theorem rowC_gen {l : List Value} {o n : Nat} (h : o + n ≤ l.length) : rowC l o n = some (.agg (sub l o n).toArray) := if_pos h
@[go_sem] theorem rowC_Bs_all (n : Nat) (f : Nat → UInt8) : rowC (Bs n f) 0 n = some (.agg (Bs n f).toArray) := by rw [rowC_gen (by simp [Bs_length]), Bs_sub_all]
@[go_sem low] theorem rowC_Bs {n o m : Nat} {f : Nat → UInt8} (h : o + m ≤ n) : rowC (Bs n f) o m = some (.agg (Bs m fun i => f (o + i)).toArray) := by
  rw [rowC_gen (by simpa [Bs_length] using h), Bs_sub h]

theorem ix_arr_cell {len : Nat} (hu : P.underlying T = some (.array len e)) (hz : tsz P e = some 1) (ht : tagg P e = some false) (l : List Value) (k : IntKind) (n : Int) : indexA P T (.agg l.toArray) (.int k n) = ixC (aidx n len) l := by
  unfold indexA; rw [hu]
  simp only [aggA, intA, hz, Option.bind_some]
  cases aidx n len with
  | none => rfl
  | some i => simp only [Option.bind_some, partA, ht, Nat.mul_one]; rfl
theorem ix_arr_cell_B {len : Nat} (hu : P.underlying T = some (.array len e)) (hz : tsz P e = some 1) (ht : tagg P e = some false) (l : List Value) (x : UInt8) : indexA P T (.agg l.toArray) (B x) = ixC (aidx x.toNat len) l := ix_arr_cell hu hz ht l .u8 _
theorem ix_arr_row {len : Nat} (hu : P.underlying T = some (.array len e)) (hz : tsz P e = some z) (ht : tagg P e = some true) (l : List Value) (k : IntKind) (n : Int) : indexA P T (.agg l.toArray) (.int k n) = ixW (aidx n len) l z := by
  unfold indexA; rw [hu]
  simp only [aggA, intA, hz, Option.bind_some]
  cases aidx n len with
  | none => rfl
  | some i => simp only [Option.bind_some, partA, ht, hz]; rfl

def chrC : Option Nat → ByteArray → Option Value
  | some i, s => (s.data[i]?).map fun b => .int .u8 b.toNat
  | none, _ => none
@[go_sem] theorem chrC_some {i : Nat} {s : ByteArray} (h : i < s.size) : chrC (some i) s = some (B (s.data.getD i 0)) := by
  unfold chrC
  have h' : i < s.data.size := h
  simp only
  rw [Array.getElem?_eq_getElem h', Array.getD_eq_getD_getElem?, Array.getElem?_eq_getElem h']
  rfl
theorem ix_str (hu : P.underlying T = some .string) (s : ByteArray) (k : IntKind) (n : Int) : indexA P T (.string s) (.int k n) = chrC (aidx n s.size) s := by
  unfold indexA; rw [hu]
  simp only [strA, intA, Option.bind_some]
  cases aidx n s.size <;> rfl
theorem ix_str_B (hu : P.underlying T = some .string) (s : ByteArray) (x : UInt8) : indexA P T (.string s) (B x) = chrC (aidx x.toNat s.size) s := ix_str hu s .u8 _

/-! ### Fields -/
theorem fla {fs : Array Field} {S f o' ft : Nat} {fl : Field} (hu : P.underlying S = some (.struct fs)) (hf : fs[f]? = some fl) (ho : fl.offset = o') (hft : fl.type = ft) (hz : tsz P ft = some z) (hz0 : z ≠ 0) (b o : Nat) :
    fieldAddrA P S f (pt b o) = some (pt b (o + o')) := by
  subst hft
  unfold fieldAddrA fieldsA
  simp only [hu, hf, hz, Option.bind_some]
  rw [if_neg hz0, ho]
theorem fl_cell {fs : Array Field} {S f o' ft : Nat} {fl : Field} (hu : P.underlying S = some (.struct fs)) (hf : fs[f]? = some fl) (ho : fl.offset = o') (hft : fl.type = ft) (ht : tagg P ft = some false) (l : List Value) :
    fieldA P S f (.agg l.toArray) = l[o']? := by
  subst hft
  unfold fieldA fieldsA
  simp only [hu, hf, Option.bind_some, partA, ht, ho]
theorem fl_row {fs : Array Field} {S f o' ft : Nat} {fl : Field} (hu : P.underlying S = some (.struct fs)) (hf : fs[f]? = some fl) (ho : fl.offset = o') (hft : fl.type = ft) (ht : tagg P ft = some true) (hz : tsz P ft = some z) (l : List Value) :
    fieldA P S f (.agg l.toArray) = rowC l o' z := by
  subst hft
  unfold fieldA fieldsA
  simp only [hu, hf, Option.bind_some, partA, ht, hz, ho]; rfl

/-! ### Slicing -/
@[go_sem] theorem lowA_none : lowA none = some 0 := nr rfl
@[go_sem] theorem lowA_nat (k : IntKind) (n : Nat) : lowA (some (.int k (n : Int))) = some n := by
  show (if (0 : Int) ≤ n then some (n : Int).toNat else none) = _; rw [if_pos (by omega)]; rfl
@[go_sem low] theorem lowA_int (k : IntKind) {n : Int} (h : 0 ≤ n) : lowA (some (.int k n)) = some n.toNat := by
  show (if (0 : Int) ≤ n then some n.toNat else none) = _; rw [if_pos h]
@[go_sem] theorem highA_none (d : Nat) : highA d none = some d := nr rfl
@[go_sem] theorem highA_nat (d : Nat) (k : IntKind) {n : Nat} (h : n ≤ d) : highA d (some (.int k (n : Int))) = some n := aidx_nat (by omega)
@[go_sem low] theorem highA_int (d : Nat) (k : IntKind) {n : Int} (h0 : 0 ≤ n) (h : n ≤ d) : highA d (some (.int k n)) = some n.toNat := aidx_gen h0 (by omega)

def slcArr (ob : Option Blk) (b o n z : Nat) (l h : Option Nat) : Option Value :=
  match l, h, ob with
  | some l, some h, some k => if l ≤ h ∧ o + n * z ≤ k.cells.length then some (.slice (some ⟨b, o + l * z, none⟩) (h - l) z) else none
  | _, _, _ => none
def slcSl (b o z : Nat) (l h : Option Nat) : Option Value :=
  match l, h with
  | some l, some h => if l ≤ h then some (.slice (some ⟨b, o + l * z, none⟩) (h - l) z) else none
  | _, _ => none
def slcStr (s : ByteArray) (l h : Option Nat) : Option Value :=
  match l, h with
  | some l, some h => if l ≤ h then some (.string (s.extract l h)) else none
  | _, _ => none
@[go_sem] theorem slcArr_some {cs : List Value} {r : Bool} {b o n z l h : Nat} (hl : l ≤ h) (hc : o + n * z ≤ cs.length) : slcArr (some ⟨cs, r⟩) b o n z (some l) (some h) = some (sl b (o + l * z) (h - l) z) := if_pos ⟨hl, hc⟩
@[go_sem] theorem slcSl_some {b o z l h : Nat} (hl : l ≤ h) : slcSl b o z (some l) (some h) = some (sl b (o + l * z) (h - l) z) := if_pos hl
@[go_sem] theorem slcStr_some {s : ByteArray} {l h : Nat} (hl : l ≤ h) : slcStr s (some l) (some h) = some (.string (s.extract l h)) := if_pos hl
theorem sla_arr {n : Nat} (hu : P.underlying T = some (.array n e)) (hz : tsz P e = some z) (hp : List Blk) (b o : Nat) (lo hi : Option Value) : aslice P hp T (pt b o) lo hi = slcArr (hp[b]?) b o n z (lowA lo) (highA n hi) := by
  unfold aslice; rw [hu]
  simp only [ptrA, hz, Option.bind_some]
  cases lowA lo <;> cases highA n hi <;> cases hp[b]? <;> rfl
theorem sla_sl (hu : P.underlying T = some (.slice e)) (hz : tsz P e = some z) (hp : List Blk) (b o len : Nat) (lo hi : Option Value) : aslice P hp T (sl b o len z) lo hi = slcSl b o z (lowA lo) (highA len hi) := by
  unfold aslice; rw [hu]
  simp only [slA, hz, Option.bind_some, and_true]
  cases lowA lo <;> cases highA len hi <;> rfl
def slcNil (l h : Option Nat) : Option Value :=
  match l, h with
  | some l, some h => if l ≤ h then some (.slice none 0 0) else none
  | _, _ => none
@[go_sem] theorem slcNil_some {l h : Nat} (hl : l ≤ h) : slcNil (some l) (some h) = some (.slice none 0 0) := if_pos hl
theorem sla_nil (hu : P.underlying T = some (.slice e)) (hz : tsz P e = some z) (hp : List Blk) (lo hi : Option Value) : aslice P hp T (.slice none 0 0) lo hi = slcNil (lowA lo) (highA 0 hi) := by
  unfold aslice; rw [hu]
  simp only [hz, Option.bind_some]
  cases lowA lo <;> cases highA 0 hi <;> rfl
theorem sliceT_of (hu : P.underlying T = some (.slice e)) : isSliceT P T = true := by unfold isSliceT; rw [hu]
theorem cap_nil (hu : P.underlying T = some (.slice e)) (c : Nat) : acap P T (.slice none 0 c) = some (.int .i64 c) := if_pos (sliceT_of hu)
theorem eqn_sl (hu : P.underlying T = some (.slice e)) (b o n es : Nat) : abin P .eql T (sl b o n es) (.slice none 0 0) = some (.bool false) := if_pos (sliceT_of hu)
theorem eqn_nil (hu : P.underlying T = some (.slice e)) (l c : Nat) : abin P .eql T (.slice none l c) (.slice none 0 0) = some (.bool true) := if_pos (sliceT_of hu)
theorem nen_sl (hu : P.underlying T = some (.slice e)) (b o n es : Nat) : abin P .neq T (sl b o n es) (.slice none 0 0) = some (.bool true) := if_pos (sliceT_of hu)
theorem nen_nil (hu : P.underlying T = some (.slice e)) (l c : Nat) : abin P .neq T (.slice none l c) (.slice none 0 0) = some (.bool false) := if_pos (sliceT_of hu)
theorem sla_str (hu : P.underlying T = some .string) (hp : List Blk) (s : ByteArray) (lo hi : Option Value) : aslice P hp T (.string s) lo hi = slcStr s (lowA lo) (highA s.size hi) := by
  unfold aslice; rw [hu]
  simp only [strA, Option.bind_some]
  cases lowA lo <;> cases highA s.size hi <;> rfl

/-! ### Conversions, lengths -/
theorem conv_int {S d : TypeId} {k' : IntKind} {ds : TypeDesc} (hs : P.underlying S = some ds) (hd : P.underlying d = some (.int k')) (hp : List Blk) (k : IntKind) (n : Int) : convS P hp S d (.int k n) = some (.int k' (k'.wrap n)) := by
  unfold convS; rw [hd]; simp only [convA, hs, hd, Option.bind_some]; rfl
theorem conv_B {S d : TypeId} {k' : IntKind} {ds : TypeDesc} (hs : P.underlying S = some ds) (hd : P.underlying d = some (.int k')) (hp : List Blk) (x : UInt8) : convS P hp S d (B x) = some (.int k' (k'.wrap x.toNat)) := conv_int hs hd hp .u8 _
theorem bytesA_Bl : ∀ l : List UInt8, bytesA (Bl l) = some l
  | [] => rfl
  | x :: l => by
    show (bytesA (Bl l)).map (UInt8.ofNat (x.toNat : Int).toNat :: ·) = _
    rw [bytesA_Bl l]; simp
def strR (ob : Option Blk) (o n : Nat) : Option Value :=
  match ob with
  | some k => if o + n ≤ k.cells.length then (bytesA (sub k.cells o n)).map fun bs => .string ⟨bs.toArray⟩ else none
  | none => none
@[go_sem] theorem strR_Bl_all (l : List UInt8) (r : Bool) {n : Nat} (hn : n = l.length) : strR (some ⟨Bl l, r⟩) 0 n = some (.string ⟨l.toArray⟩) := by
  subst hn
  unfold strR; simp only [Bl_length, Nat.zero_add, Nat.le_refl, if_true, Bl_sub_all, bytesA_Bl, Option.map_some]
theorem conv_str {S d : TypeId} (hs : P.underlying S = some (.slice e)) (he : P.underlying e = some (.int .u8)) (hd : P.underlying d = some .string) (hp : List Blk) (b o n es : Nat) : convS P hp S d (sl b o n es) = strR (hp[b]?) o n := by
  unfold convS strOfA
  simp only [hd, hs]
  have : isU8T P e = true := by unfold isU8T; rw [he]
  rw [if_pos this]
  simp only [slA, Option.bind_some]
  cases hp[b]? <;> rfl

theorem len_sl (hu : P.underlying T = some (.slice e)) (b o n es : Nat) : alen P T (sl b o n es) = some (.int .i64 n) := by unfold alen; rw [hu]; rfl
theorem len_nilS (hu : P.underlying T = some (.slice e)) (n c : Nat) : alen P T (.slice none n c) = some (.int .i64 n) := by unfold alen; rw [hu]; rfl
theorem len_arr {n : Nat} (hu : P.underlying T = some (.array n e)) (v : Value) : alen P T v = some (.int .i64 n) := by unfold alen; rw [hu]
theorem len_str (hu : P.underlying T = some .string) (s : ByteArray) : alen P T (.string s) = some (.int .i64 s.size) := by unfold alen; rw [hu]; rfl

theorem eql_bool (hu : isBoolT P T = true) (a b : Bool) : abin P .eql T (.bool a) (.bool b) = some (.bool (a == b)) := if_pos hu
theorem neq_bool (hu : isBoolT P T = true) (a b : Bool) : abin P .neq T (.bool a) (.bool b) = some (.bool (!(a == b))) := if_pos hu
@[go_sem] theorem eql_str (a b : ByteArray) : abin P .eql T (.string a) (.string b) = some (.bool (a.toList == b.toList)) := nr rfl
@[go_sem] theorem neq_str (a b : ByteArray) : abin P .neq T (.string a) (.string b) = some (.bool !(a.toList == b.toList)) := nr rfl
@[go_sem] theorem add_str {a b : ByteArray} (h : a.size + b.size ≤ 9223372036854775807) : abin P .add T (.string a) (.string b) = some (.string (a ++ b)) := by
  show (if _ then none else _) = _
  rw [if_neg (by rw [IntKind.max_i64]; omega)]

theorem tapG {n : Nat} (hu : P.underlying T = some (.array n e)) (h0 : 0 < n) {b o len es : Nat} (hl : n ≤ len) : toArrPtrA P T (sl b o len es) = some (pt b o) := by
  unfold toArrPtrA; rw [hu]; exact if_pos ⟨h0, hl⟩

/-! ### New memory -/
theorem alloc_of {v : Value} {cs : List Value} (hz : tzero P T = some v) (hc : cellsA v = some cs) (hp : cs.all plainC = true) (h : List Blk) : allocA P h T = some (pt h.length 0, h ++ [⟨cs, true⟩]) := by
  unfold allocA; rw [hz]; simp only [Option.bind_some, hc]; exact if_pos hp
theorem build_nil {cs : List Value} (hz : tzero P T = some (.agg cs.toArray)) (hp : cs.all plainC = true) {n : Nat} (hu : P.underlying T = some (.array n e)) (hs : tsz P e = some z) : buildA P T [] = some (.agg cs.toArray) := by
  unfold buildA
  simp only [hz, Option.bind_some, aggA, hp, if_true, hu, hs, fillA, Option.map_some]
theorem build_nil_struct {cs : List Value} (hz : tzero P T = some (.agg cs.toArray)) (hp : cs.all plainC = true) {fs : Array Field} {pl : List (Nat × Nat)} (hu : P.underlying T = some (.struct fs)) (hs : placesA P T = some pl) : buildA P T [] = some (.agg cs.toArray) := by
  unfold buildA
  simp only [hz, Option.bind_some, aggA, hp, if_true, hu, hs, fillA, Option.map_some]

/-- Parts laid into cells, one behind the other. -/
def bldR (o : Option (List Value)) : Option Value := o.map fun cs => .agg cs.toArray
@[go_sem] theorem bldR_some (cs : List Value) : bldR (some cs) = some (.agg cs.toArray) := nr rfl
def fill1 (os : Option (Nat × Nat)) (vc : Option (List Value)) (cells : List Value) : Option (List Value) :=
  match os, vc with
  | some os, some vc => if vc.length = os.2 ∧ os.1 + os.2 ≤ cells.length then some (splice cells os.1 vc) else none
  | _, _ => none
def fillK (place : Nat → Option (Nat × Nat)) (cells : Option (List Value)) (ps : List (Nat × Value)) : Option (List Value) := cells.bind fun cs => fillA place cs ps
theorem fillA_eq (place : Nat → Option (Nat × Nat)) (cells : List Value) (i : Nat) (v : Value) (ps : List (Nat × Value)) : fillA place cells ((i, v) :: ps) = fillK place (fill1 (place i) (cellsA v) cells) ps := by
  unfold fillK fill1
  rw [fillA]
  cases place i <;> cases cellsA v <;> simp only [Option.bind_none, Option.bind_some]
  split <;> rfl
@[go_sem] theorem fillK_nil (place : Nat → Option (Nat × Nat)) (cs : List Value) : fillK place (some cs) [] = some cs := nr rfl
@[go_sem] theorem fillK_cons (place : Nat → Option (Nat × Nat)) (cs : List Value) (i : Nat) (v : Value) (ps : List (Nat × Value)) : fillK place (some cs) ((i, v) :: ps) = fillK place (fill1 (place i) (cellsA v) cs) ps := fillA_eq ..
@[go_sem] theorem fill1_some {o n : Nat} {vc cells : List Value} (h1 : vc.length = n) (h2 : o + n ≤ cells.length) : fill1 (some (o, n)) (some vc) cells = some (splice cells o vc) := if_pos ⟨h1, h2⟩
theorem build_parts {cs : List Value} (hz : tzero P T = some (.agg cs.toArray)) (hp : cs.all plainC = true) {n : Nat} (hu : P.underlying T = some (.array n e)) (hs : tsz P e = some z) (ps : List (Nat × Value)) : buildA P T ps = bldR (fillK (fun i => some (i * z, z)) (some cs) ps) := by
  unfold buildA bldR fillK
  simp only [hz, Option.bind_some, aggA, hp, if_true, hu, hs]
theorem build_parts_struct {cs : List Value} (hz : tzero P T = some (.agg cs.toArray)) (hp : cs.all plainC = true) {fs : Array Field} {pl : List (Nat × Nat)} (hu : P.underlying T = some (.struct fs)) (hs : placesA P T = some pl) (ps : List (Nat × Value)) : buildA P T ps = bldR (fillK (pl[·]?) (some cs) ps) := by
  unfold buildA bldR fillK
  simp only [hz, Option.bind_some, aggA, hp, if_true, hu, hs]

theorem bs_nil (hu : P.underlying T = some (.slice e)) {zv : Value} {zs : List Value} (hz : tsz P e = some z) (hzv : tzero P e = some zv) (hzs : cellsA zv = some zs) (hl : zs.length = z) (hp : zs.all plainC = true) (h : List Blk) :
    buildSliceA P h T 0 [] = some (sl h.length 0 0 z, h ++ [⟨[], true⟩]) := by
  unfold buildSliceA zerosA
  simp only [hu, hz, hzv, hzs, hl, hp, Option.bind_some, and_self, if_true, Nat.zero_mul, Nat.zero_le, fillA, Option.map_some]
  simp [repA]

/-- The cells of a slice that is written out. -/
def litR (h : List Blk) (n z : Nat) (o : Option (List Value)) : Option (Value × List Blk) := o.map fun cs => (sl h.length 0 n z, h ++ [⟨cs, true⟩])
@[go_sem] theorem litR_some (h : List Blk) (n z : Nat) (cs : List Value) : litR h n z (some cs) = some (sl h.length 0 n z, h ++ [⟨cs, true⟩]) := nr rfl
theorem bs_parts (hu : P.underlying T = some (.slice e)) {zv : Value} {zs : List Value} (hz : tsz P e = some z) (hzv : tzero P e = some zv) (hzs : cellsA zv = some zs) (hl : zs.length = z) (hp : zs.all plainC = true) (h : List Blk) {n : Nat} (hn : n * z ≤ 16777216) (ps : List (Nat × Value)) :
    buildSliceA P h T n ps = litR h n z (fillK (fun i => some (i * z, z)) (some (repA zs n)) ps) := by
  unfold buildSliceA zerosA litR fillK
  simp only [hu, hz, hzv, hzs, hl, hp, Option.bind_some, and_self, if_true]
  rw [if_pos (by omega)]
theorem repA_one (c : Value) (n : Nat) : repA [c] n = List.replicate n c := by
  unfold repA
  simp only [List.length_singleton, Nat.mul_one, Nat.mod_one]
  have : (fun _ : Nat => ([c] : List Value).getD 0 J) = fun _ => c := rfl
  rw [this, List.map_const']
  simp
theorem bs_cells (hu : P.underlying T = some (.slice e)) {c : Value} (hz : tsz P e = some 1) (hzv : tzero P e = some c) (hzs : cellsA c = some [c]) (hp : plainC c = true) (h : List Blk) {n : Nat} (hn : n ≤ 16777216) (ps : List (Nat × Value)) :
    buildSliceA P h T n ps = litR h n 1 (fillK (fun i => some (i * 1, 1)) (some (List.replicate n c)) ps) := by
  rw [← repA_one]; exact bs_parts hu hz hzv hzs rfl (by simp [hp]) h (by omega) ps

theorem ms_of (hu : P.underlying T = some (.slice e)) {zv : Value} {zs : List Value} {by' : Nat} (hz : tsz P e = some z) (hb : tbytes P e = some by') (hb0 : 0 < by') (hzv : tzero P e = some zv) (hzs : cellsA zv = some zs) (hl : zs.length = z) (hp : zs.all plainC = true) (h : List Blk) (k k' : IntKind) {n : Int} (h0 : 0 ≤ n) (hr : n * by' ≤ 140737488355328) :
    makeSliceA P h T (.int k n) (.int k' n) = some (sl h.length 0 n.toNat z, h ++ [⟨repA zs n.toNat, true⟩]) := by
  unfold makeSliceA zerosA
  simp only [intA, hu, hz, hb, hzv, hzs, hl, hp, Option.bind_some, and_self, if_true]
  rw [if_pos]
  refine ⟨trivial, h0, hb0, ?_⟩
  unfold roomOk
  have : ((n.toNat * by' : Nat) : Int) = n * by' := by rw [Int.natCast_mul, Int.toNat_of_nonneg h0]
  omega
theorem repA_B (n : Nat) : repA [B 0] n = Bs n fun _ => 0 := by
  rw [repA_one]; unfold Bs; simp [List.map_const']
theorem repA_I (n : Nat) : repA [Value.int .i64 0] n = Is n fun _ => 0 := by
  rw [repA_one]; unfold Is; simp [List.map_const']

/-! ### Appending -/
def srcR (ob : Option Blk) (o m z : Nat) : Option (Nat × List Value) :=
  match ob with
  | some k => if o + m * z ≤ k.cells.length then some (m, sub k.cells o (m * z)) else none
  | none => none
theorem srcA_sl (h : List Blk) (b o m z : Nat) : srcA h z (sl b o m z) = srcR (h[b]?) o m z := by
  unfold srcA srcR
  simp only [true_and]
  cases h[b]? <;> rfl
@[go_sem] theorem srcR_some {cs : List Value} {r : Bool} {o m z : Nat} (h : o + m * z ≤ cs.length) : srcR (some ⟨cs, r⟩) o m z = some (m, sub cs o (m * z)) := if_pos h
def appR (h : List Blk) (z by' : Nat) (s : Value) (n : Option (Nat × List Value)) : Option (Value × List Blk) := n.bind fun n => appendTo h z by' s n.1 n.2
theorem append_of {i : TypeId × Nat × Nat} (hi : elemInfo P T = some i) (h : List Blk) (s x : Value) : appendA P h T T s x = appR h i.2.1 i.2.2 s (srcA h i.2.1 x) := by
  unfold appendA appR; simp only [hi, Option.bind_some, if_true]
theorem append_zeros {T' : TypeId} {zv : Value} {zs : List Value} {by' : Nat} {k : IntKind} (hi : elemInfo P T = some (e, z, by')) (hne : T' ≠ T) (hu' : P.underlying T' = some (.int k)) (hz : tsz P e = some z) (hzv : tzero P e = some zv) (hzs : cellsA zv = some zs) (hl : zs.length = z) (hp : zs.all plainC = true) (h : List Blk) {n : Int} (h0 : 0 < n) (hr : n * by' ≤ 140737488355328) :
    appendA P h T T' (.slice none 0 0) (.int .i64 n) = some (sl h.length 0 n.toNat z, h ++ [⟨repA zs n.toNat, true⟩]) := by
  unfold appendA
  simp only [hi, Option.bind_some, if_neg hne]
  unfold appendZ zerosA
  simp only [hu', hz, hzv, hzs, hl, hp, Option.bind_some, and_self, if_true]
  rw [if_pos]
  refine ⟨h0, ?_⟩
  unfold roomOk
  have : ((n.toNat * by' : Nat) : Int) = n * by' := by rw [Int.natCast_mul, Int.toNat_of_nonneg (by omega)]
  omega
/-- A slice of ours grows by some elements. -/
def growR (h : List Blk) (b : Nat) (ob : Option Blk) (len z by' m : Nat) (news : List Value) : Option (Value × List Blk) :=
  match ob with
  | some k => if k.rw = true ∧ k.cells.length = len * z ∧ (len + m) * by' ≤ 140737488355328 then some (sl h.length 0 (len + m) z, h.set b dead ++ [⟨k.cells ++ news, true⟩]) else none
  | none => none
@[go_sem] theorem appR_sl (h : List Blk) (b len z by' m : Nat) (news : List Value) : appR h z by' (sl b 0 len z) (some (m, news)) = growR h b (h[b]?) len z by' m news := by
  unfold appR appendTo growR roomOk
  simp only [Option.bind_some, true_and]
  cases h[b]? <;> rfl
@[go_sem] theorem growR_some {h : List Blk} {b : Nat} {cs : List Value} {len z by' m : Nat} {news : List Value} (h1 : cs.length = len * z) (h2 : (len + m) * by' ≤ 140737488355328) :
    growR h b (some ⟨cs, true⟩) len z by' m news = some (sl h.length 0 (len + m) z, h.set b dead ++ [⟨cs ++ news, true⟩]) := if_pos ⟨rfl, h1, h2⟩
@[go_sem] theorem appR_nil {h : List Blk} {z by' m : Nat} {news : List Value} (hm : m ≠ 0) (h2 : m * by' ≤ 140737488355328) : appR h z by' (.slice none 0 0) (some (m, news)) = some (sl h.length 0 m z, h ++ [⟨news, true⟩]) := by
  show (if m = 0 then _ else if roomOk m by' then _ else _) = _
  rw [if_neg hm, if_pos (show roomOk m by' from h2)]

attribute [go_sem] Nat.mul_one Nat.one_mul List.nil_append

end

/-! ### Equality of rows of bytes -/

def eqB (n : Nat) (f g : Nat → UInt8) : Bool := leq (Bs n f) (Bs n g)

theorem leq_bytes : ∀ (l : List Nat) (f g : Nat → UInt8), leq (l.map fun i => B (f i)) (l.map fun i => B (g i)) = true ↔ ∀ i ∈ l, f i = g i
  | [], _, _ => by simp [leq]
  | i :: l, f, g => by
    simp only [List.map_cons, leq, Bool.and_eq_true, leq_bytes l f g, List.forall_mem_cons]
    rw [show ceq (B (f i)) (B (g i)) = (f i == g i) from toNat_inj' _ _, beq_iff_eq]

theorem eqB_iff {n : Nat} {f g : Nat → UInt8} : eqB n f g = true ↔ ∀ i, i < n → f i = g i := by
  unfold eqB Bs
  rw [leq_bytes]
  simp

@[go_sem] theorem eqB_self (n : Nat) (f : Nat → UInt8) : eqB n f f = true := eqB_iff.2 fun _ _ => rfl

theorem oks_map (k : CK) (g : Nat → Value) (h : ∀ i, k.ok (g i) = true) : ∀ l : List Nat, oks (List.replicate l.length k) (l.map g) = true
  | [] => rfl
  | i :: l => by simp only [List.length_cons, List.replicate_succ, List.map_cons, oks, h, oks_map k g h l, Bool.and_self]

theorem Bs_oks (n : Nat) (f : Nat → UInt8) : oks (List.replicate n (.int .u8)) (Bs n f) = true := by
  have := oks_map (.int .u8) (fun i => B (f i)) (fun _ => rfl) (List.range n)
  rwa [List.length_range] at this

theorem aeq_bytes {P : Program} {T : TypeId} {n : Nat} (hk : kinds P 8 T = some (List.replicate n (.int .u8))) (hg : P.eqGuardType P.depth T = false) (hm : P.keyTypeAt 8 T = true) (ha : tagg P T = some true) (hz : n = P.cellsOf T) (f g : Nat → UInt8) :
    aeq P T (Bs n f) (Bs n g) = some (eqB n f g) := by
  unfold aeq
  rw [hk, Option.bind_some, if_pos ⟨hg, hm, ha, by simpa using hz, Bs_oks n f, Bs_oks n g⟩]
  rfl

theorem eql_bytes {P : Program} {T : TypeId} {n : Nat} {f g : Nat → UInt8} (h : aeq P T (Bs n f) (Bs n g) = some (eqB n f g)) : abin P .eql T (.agg (Bs n f).toArray) (.agg (Bs n g).toArray) = some (.bool (eqB n f g)) := by
  show (aeq P T (Bs n f) (Bs n g)).map _ = _
  rw [h]; rfl
theorem neq_bytes {P : Program} {T : TypeId} {n : Nat} {f g : Nat → UInt8} (h : aeq P T (Bs n f) (Bs n g) = some (eqB n f g)) : abin P .neq T (.agg (Bs n f).toArray) (.agg (Bs n g).toArray) = some (.bool (!eqB n f g)) := by
  show (aeq P T (Bs n f) (Bs n g)).map _ = _
  rw [h]; rfl

end Go.Abs
