/- The abstract machine, part G: the equations by which a walk is reckoned. Generic: no program in sight. -/
import Derived.Test.YtalbdgkbinndlaaDoorAbsF
namespace Go.Abs
set_option linter.unusedSimpArgs false
set_option linter.unusedVariables false
set_option maxRecDepth 20000
set_option maxHeartbeats 1000000

/-- An equation that the simplifier is to keep a proof of (it does not for what is so by reckoning). -/
theorem nr {α : Sort _} {a b : α} (h : a = b) : a = b := h

/-! ### Values -/

abbrev pt (b o : Nat) : Value := .pointer (some ⟨b, o, none⟩)
abbrev sl (b o n es : Nat) : Value := .slice (some ⟨b, o, none⟩) n es

/-- A byte. -/
def B (x : UInt8) : Value := .int .u8 (x.toNat : Int)
/-- A row of n bytes, told by a function. -/
def Bs (n : Nat) (f : Nat → UInt8) : List Value := (List.range n).map fun i => B (f i)
/-- A list of bytes. -/
def Bl (l : List UInt8) : List Value := l.map B
/-- A row of n numbers. -/
def Is (n : Nat) (f : Nat → Int) : List Value := (List.range n).map fun i => .int .i64 (f i)
/-- A list of numbers. -/
def Il (l : List Int) : List Value := l.map (Value.int .i64)
/-- A row of n cells. -/
def Vs (n : Nat) (f : Nat → Value) : List Value := (List.range n).map f

/-- A function that is turned at one place. -/
def upd {α : Type} (f : Nat → α) (i : Nat) (x : α) : Nat → α := fun j => if j = i then x else f j

theorem upd_same {α : Type} (f : Nat → α) (i : Nat) (x : α) : upd f i x i = x := by simp [upd]
theorem upd_other {α : Type} {f : Nat → α} {i j : Nat} {x : α} (h : j ≠ i) : upd f i x j = f j := by simp [upd, h]

theorem range_map_set {α : Type} (n i : Nat) (f : Nat → α) (x : α) : ((List.range n).map f).set i x = (List.range n).map (upd f i x) := by
  apply List.ext_getElem?
  intro j
  rw [List.getElem?_set]
  simp only [List.getElem?_map, List.length_map, List.length_range]
  by_cases hj : j < n
  · rw [List.getElem?_range hj]
    by_cases hij : i = j
    · subst hij; simp [hj, upd]
    · rw [if_neg hij]; simp [upd, Ne.symm hij]
  · rw [List.getElem?_eq_none (by simp; omega)]
    by_cases hij : i = j
    · subst hij; simp [hj]
    · rw [if_neg hij]; rfl

theorem Bs_set (n i : Nat) (f : Nat → UInt8) (x : UInt8) : (Bs n f).set i (B x) = Bs n (upd f i x) := by
  unfold Bs; rw [range_map_set]; apply List.map_congr_left; intro j _; simp only [upd]; split <;> rfl
theorem Is_set (n i : Nat) (f : Nat → Int) (x : Int) : (Is n f).set i (.int .i64 x) = Is n (upd f i x) := by
  unfold Is; rw [range_map_set]; apply List.map_congr_left; intro j _; simp only [upd]; split <;> rfl
theorem Vs_set (n i : Nat) (f : Nat → Value) (x : Value) : (Vs n f).set i x = Vs n (upd f i x) := range_map_set ..

@[go_sem] theorem Bs_length (n : Nat) (f : Nat → UInt8) : (Bs n f).length = n := by simp [Bs]
@[go_sem] theorem Bl_length (l : List UInt8) : (Bl l).length = l.length := by simp [Bl]
@[go_sem] theorem Is_length (n : Nat) (f : Nat → Int) : (Is n f).length = n := by simp [Is]
@[go_sem] theorem Il_length (l : List Int) : (Il l).length = l.length := by simp [Il]
@[go_sem] theorem Vs_length (n : Nat) (f : Nat → Value) : (Vs n f).length = n := by simp [Vs]

theorem Vs_get {n i : Nat} {f : Nat → Value} (h : i < n) : (Vs n f)[i]? = some (f i) := by simp [Vs, h]
theorem Bs_get {n i : Nat} {f : Nat → UInt8} (h : i < n) : (Bs n f)[i]? = some (B (f i)) := by simp [Bs, h]
theorem Is_get {n i : Nat} {f : Nat → Int} (h : i < n) : (Is n f)[i]? = some (.int .i64 (f i)) := by simp [Is, h]
theorem Bl_get {l : List UInt8} {i : Nat} (h : i < l.length) : (Bl l)[i]? = some (B (l.getD i 0)) := by simp [Bl, h, List.getD_eq_getElem?_getD]
theorem Il_get {l : List Int} {i : Nat} (h : i < l.length) : (Il l)[i]? = some (.int .i64 (l.getD i 0)) := by simp [Il, h, List.getD_eq_getElem?_getD]

theorem range_sub {α : Type} {n off m : Nat} (f : Nat → α) (h : off + m ≤ n) : (((List.range n).map f).drop off).take m = (List.range m).map fun i => f (off + i) := by
  apply List.ext_getElem?
  intro j
  rw [List.getElem?_take]
  split
  · rename_i hj
    rw [List.getElem?_drop, List.getElem?_map, List.getElem?_map, List.getElem?_range (by omega), List.getElem?_range hj]; rfl
  · rename_i hj
    rw [List.getElem?_eq_none (by simp; omega)]

theorem Bs_sub {n off m : Nat} {f : Nat → UInt8} (h : off + m ≤ n) : sub (Bs n f) off m = Bs m fun i => f (off + i) := range_sub _ h
theorem Is_sub {n off m : Nat} {f : Nat → Int} (h : off + m ≤ n) : sub (Is n f) off m = Is m fun i => f (off + i) := range_sub _ h
theorem Vs_sub {n off m : Nat} {f : Nat → Value} (h : off + m ≤ n) : sub (Vs n f) off m = Vs m fun i => f (off + i) := range_sub _ h
theorem sub_all (l : List Value) : sub l 0 l.length = l := by simp [sub]
theorem Bs_sub_all (n : Nat) (f : Nat → UInt8) : sub (Bs n f) 0 n = Bs n f := by have := sub_all (Bs n f); rwa [Bs_length] at this
theorem Is_sub_all (n : Nat) (f : Nat → Int) : sub (Is n f) 0 n = Is n f := by have := sub_all (Is n f); rwa [Is_length] at this
theorem Vs_sub_all (n : Nat) (f : Nat → Value) : sub (Vs n f) 0 n = Vs n f := by have := sub_all (Vs n f); rwa [Vs_length] at this
theorem Bl_sub {l : List UInt8} {off m : Nat} : sub (Bl l) off m = Bl ((l.drop off).take m) := by simp [sub, Bl, List.map_drop, List.map_take]
theorem Bl_sub_all (l : List UInt8) : sub (Bl l) 0 l.length = Bl l := by have := sub_all (Bl l); rwa [Bl_length] at this

/-! ### Plain, well formed -/

theorem plain_map {α : Type} (l : List α) (f : α → Value) (h : ∀ a, plainC (f a) = true) : (l.map f).all plainC = true := by simp [h]
@[go_sem] theorem Bs_plain (n : Nat) (f : Nat → UInt8) : (Bs n f).all plainC = true := plain_map _ _ fun _ => rfl
@[go_sem] theorem Bl_plain (l : List UInt8) : (Bl l).all plainC = true := plain_map _ _ fun _ => rfl
@[go_sem] theorem Is_plain (n : Nat) (f : Nat → Int) : (Is n f).all plainC = true := plain_map _ _ fun _ => rfl
@[go_sem] theorem Il_plain (l : List Int) : (Il l).all plainC = true := plain_map _ _ fun _ => rfl

theorem plainC_wf {n : Nat} {v : Value} (h : plainC v = true) : wfC n v := by
  unfold plainC at h; unfold wfC
  split at h <;> simp_all

theorem wf_plain {n : Nat} {l : List Value} (h : l.all plainC = true) : ∀ c ∈ l, wfC n c := fun c hc => plainC_wf (List.all_eq_true.1 h c hc)

theorem plain1_wf {n : Nat} {v : Value} (h : plain1 v = true) : wf1 n v := by
  unfold wf1
  split
  · exact wf_plain (by simpa [plain1] using h)
  · rename_i hno
    refine plainC_wf ?_
    cases v <;> first | exact h | exact (hno _ rfl).elim

theorem plainV_wf {n : Nat} {v : Value} (h : plainV v = true) : wfV n v := by
  unfold wfV
  split
  · rename_i vs
    intro u hu
    exact plain1_wf (List.all_eq_true.1 (show vs.toList.all plain1 = true from h) u hu)
  · rename_i hno
    refine plain1_wf ?_
    cases v <;> first | exact h | exact (hno _ rfl).elim

/-! ### Where simp may look -/

@[congr] theorem someK_congr {α : Type} {o o' : Option α} {K : α → Prop} (h : o = o') : someK o K = someK o' K := by rw [h]
@[congr] theorem opsK_congr {P : Program} {ops : Array Oper} {K : AS → Prop} {l : List Oper} {s s' : AS} (h : s = s') : opsK P ops K l s = opsK P ops K l s' := by rw [h]
@[congr] theorem opsQ_congr {P : Program} {ops : Array Oper} {K : AS → Prop} {l : List Oper} {s s' : AS} (h : s = s') : opsQ P ops K l s = opsQ P ops K l s' := by rw [h]
@[congr] theorem opK_congr {P : Program} {o : Oper} {s s' : AS} {K : AS → Prop} (h : s = s') : opK P o s K = opK P o s' K := by rw [h]
@[congr] theorem opQ_congr {P : Program} {o : Oper} {s s' : AS} {K : AS → Prop} (h : s = s') : opQ P o s K = opQ P o s' K := by rw [h]
@[congr] theorem WA_congr {P : Program} {n : Nat} {c : Code} {Q : Exit → AS → Prop} {s s' : AS} (h : s = s') : WA P n c Q s = WA P n c Q s' := by rw [h]
@[congr] theorem callK_congr {P : Program} {f : FuncId} {args args' : List Value} {h h' : List Blk} {K : Value → List Blk → Prop} (ha : args = args') (hh : h = h') : callK P f args h K = callK P f args' h' K := by rw [ha, hh]

/-- A guard's two ways. -/
def gK (ob : Option (Option Bool)) (want : Bool) (run skip : Prop) : Prop := someK ob fun b => (b = some want → run) ∧ (b ≠ some want → skip)
@[congr] theorem gK_congr {ob ob' : Option (Option Bool)} {want : Bool} {run skip : Prop} (h : ob = ob') : gK ob want run skip = gK ob' want run skip := by rw [h]
@[go_sem] theorem gK_tt (run skip : Prop) : gK (some (some true)) true run skip = run := by simp [gK, someK]
@[go_sem] theorem gK_tf (run skip : Prop) : gK (some (some true)) false run skip = skip := by simp [gK, someK]
@[go_sem] theorem gK_ft (run skip : Prop) : gK (some (some false)) true run skip = skip := by simp [gK, someK]
@[go_sem] theorem gK_ff (run skip : Prop) : gK (some (some false)) false run skip = run := by simp [gK, someK]
@[go_sem] theorem gK_u (want : Bool) (run skip : Prop) : gK (some none) want run skip = skip := by simp [gK, someK]
theorem gK_split {b want : Bool} {run skip : Prop} (h1 : b = want → run) (h2 : b = (!want) → skip) : gK (some (some b)) want run skip :=
  ⟨fun e => h1 (Option.some.inj e), fun h => h2 (by cases b <;> cases want <;> simp_all)⟩

/-- What follows a call: reckoned only behind it. -/
def contK (K : AS → Prop) (t : List Value) (d : Option Tmp) : Value → List Blk → Prop := fun v h' => K (AS.put ⟨t, h'⟩ d v)
@[go_sem] theorem contK_app (K : AS → Prop) (t : List Value) (d : Option Tmp) (v : Value) (h' : List Blk) : contK K t d v h' = K (AS.put ⟨t, h'⟩ d v) := nr rfl
def contQ (K : AS → Prop) (s : AS) (d : Option Tmp) : Value → Prop := fun v => K (s.put d v)
@[go_sem] theorem contQ_app (K : AS → Prop) (s : AS) (d : Option Tmp) (v : Value) : contQ K s d v = K (s.put d v) := nr rfl
/-- What follows a guard: reckoned only when it is known. -/
def gOps (P : Program) (ops : Array Oper) (K : AS → Prop) (o : Oper) (rest : List Oper) (s : AS) (d : Option Tmp) (ob : Option (Option Bool)) (want : Bool) : Prop := gK ob want (opsK P ops K (o :: rest) s) (opsK P ops K rest (s.put d U))
@[congr] theorem gOps_congr {P : Program} {ops : Array Oper} {K : AS → Prop} {o : Oper} {rest : List Oper} {s : AS} {d : Option Tmp} {ob ob' : Option (Option Bool)} {want : Bool} (h : ob = ob') : gOps P ops K o rest s d ob want = gOps P ops K o rest s d ob' want := by rw [h]
section
variable {P : Program} {ops : Array Oper} {K : AS → Prop} {o : Oper} {rest : List Oper} {s : AS} {d : Option Tmp}
@[go_sem] theorem gOps_tt : gOps P ops K o rest s d (some (some true)) true = opsK P ops K (o :: rest) s := nr (gK_tt _ _)
@[go_sem] theorem gOps_tf : gOps P ops K o rest s d (some (some true)) false = opsK P ops K rest (s.put d U) := nr (gK_tf _ _)
@[go_sem] theorem gOps_ft : gOps P ops K o rest s d (some (some false)) true = opsK P ops K rest (s.put d U) := nr (gK_ft _ _)
@[go_sem] theorem gOps_ff : gOps P ops K o rest s d (some (some false)) false = opsK P ops K (o :: rest) s := nr (gK_ff _ _)
@[go_sem] theorem gOps_u {want : Bool} : gOps P ops K o rest s d (some none) want = opsK P ops K rest (s.put d U) := nr (gK_u _ _ _)
end

section
variable {P : Program} {ops : Array Oper} {K : AS → Prop} {s : AS} {rest : List Oper} {d : Option Tmp} {op : Op} {ty : TypeId} {pos : String} {af : Array Edge} {g : Option (Nat × Bool)}

@[go_sem] theorem someK_some' {α : Type} (x : α) (K : α → Prop) : someK (some x) K = K x := nr rfl
@[go_sem] theorem opsK_nil : opsK P ops K [] s = K s := nr rfl
@[go_sem] theorem opsK_cons : opsK P ops K (⟨d, op, ty, pos, af, none⟩ :: rest) s = opK P ⟨d, op, ty, pos, af, none⟩ s (opsK P ops K rest) := nr rfl
@[go_sem] theorem opsK_guard {j : Nat} {want : Bool} : opsK P ops K (⟨d, op, ty, pos, af, some (j, want)⟩ :: rest) s =
    gOps P ops K ⟨d, op, ty, pos, af, none⟩ rest s d (yieldA ops s.t j) want := nr rfl
@[go_sem] theorem opsQ_nil : opsQ P ops K [] s = K s := nr rfl
@[go_sem] theorem opsQ_cons : opsQ P ops K (⟨d, op, ty, pos, af, none⟩ :: rest) s = opQ P ⟨d, op, ty, pos, af, none⟩ s (opsQ P ops K rest) := nr rfl
@[go_sem] theorem opsQ_guard {j : Nat} {want : Bool} : opsQ P ops K (⟨d, op, ty, pos, af, some (j, want)⟩ :: rest) s =
    gK (yieldA ops s.t j) want (opsQ P ops K (⟨d, op, ty, pos, af, none⟩ :: rest) s) (opsQ P ops K rest (s.put d U)) := nr rfl

@[go_sem] theorem put_some' (t : List Value) (h : List Blk) (d : Nat) (v : Value) : AS.put ⟨t, h⟩ (some d) v = ⟨t.set d v, h⟩ := nr rfl
@[go_sem] theorem put_none' (s : AS) (v : Value) : AS.put s none v = s := nr rfl

@[go_sem] theorem ev_tmp (t : List Value) (i : Nat) : ev t (.tmp i) = (t[i]?).getD J := nr rfl
@[go_sem] theorem ev_int (t : List Value) (k : IntKind) (n : Int) : ev t (.const (.int k n)) = .int k n := nr rfl
@[go_sem] theorem ev_bool (t : List Value) (b : Bool) : ev t (.const (.bool b)) = .bool b := nr rfl
@[go_sem] theorem ev_string (t : List Value) (b : ByteArray) : ev t (.const (.string b)) = .string b := nr rfl
@[go_sem] theorem ev_nilptr (t : List Value) : ev t (.const (.pointer none)) = .pointer none := nr rfl
@[go_sem] theorem ev_nilslice (t : List Value) (a b : Nat) : ev t (.const (.slice none a b)) = .slice none a b := nr rfl
@[go_sem] theorem ev_func (t : List Value) (f : FuncId) : ev t (.func f) = .func (.func f) #[] #[] := nr rfl

@[go_sem] theorem list_set_zero (x y : Value) (l : List Value) : (x :: l).set 0 y = y :: l := nr rfl
@[go_sem] theorem list_set_succ (x y : Value) (l : List Value) (i : Nat) : (x :: l).set (i + 1) y = x :: l.set i y := nr rfl
@[go_sem] theorem list_get_zero {α : Type} (x : α) (l : List α) : (x :: l)[0]? = some x := nr rfl
@[go_sem] theorem list_get_succ {α : Type} (x : α) (l : List α) (i : Nat) : (x :: l)[i + 1]? = l[i]? := by simp
@[go_sem] theorem getD_some' {α : Type} (x d : α) : (some x).getD d = x := nr rfl

/-! ### Operations -/

def loadP (P : Program) (h : List Blk) (T : TypeId) : Value → Option Value
  | .pointer (some p) => loadA P h T p
  | _ => none
def storeP (P : Program) (h : List Blk) (T : TypeId) (v : Value) : Value → Option (Value × List Blk)
  | .pointer (some p) => (storeA P h T p v).map fun h' => (J, h')
  | _ => none

theorem loadP_eq (h : List Blk) (T : TypeId) (v : Value) : ((ptrA v).bind fun p => loadA P h T p) = loadP P h T v := by
  unfold ptrA loadP; split <;> simp_all
theorem storeP_eq (h : List Blk) (T : TypeId) (v x : Value) : ((ptrA v).bind fun p => (storeA P h T p x).map fun h' => (J, h')) = storeP P h T x v := by
  unfold ptrA storeP; split <;> simp_all

@[go_sem] theorem opK_move {x : Operand} : opK P ⟨d, .move x, ty, pos, af, g⟩ s K = K (s.put d (ev s.t x)) := nr rfl
@[go_sem] theorem opK_assign {x : Operand} : opK P ⟨d, .assign x, ty, pos, af, g⟩ s K = K (s.put d (ev s.t x)) := nr rfl
@[go_sem] theorem opK_pick {c x y : Operand} : opK P ⟨d, .pick c x y, ty, pos, af, g⟩ s K = someK (pickA (ev s.t c) (ev s.t x) (ev s.t y)) fun v => K (s.put d v) := nr rfl
@[go_sem] theorem opK_load {T : TypeId} {x : Operand} : opK P ⟨d, .load T x, ty, pos, af, g⟩ s K = someK (loadP P s.h T (ev s.t x)) fun v => K (s.put d v) := by
  rw [← loadP_eq]; rfl
@[go_sem] theorem opK_store {T : TypeId} {x y : Operand} : opK P ⟨d, .store T x y, ty, pos, af, g⟩ s K = someK (storeP P s.h T (ev s.t y) (ev s.t x)) fun r => K (AS.put ⟨s.t, r.2⟩ d r.1) := by
  rw [← storeP_eq]; rfl
@[go_sem] theorem opK_nilCheck {x : Operand} : opK P ⟨d, .nilCheck x, ty, pos, af, g⟩ s K = someK ((ptrA (ev s.t x)).map fun p => .pointer (some p)) fun v => K (s.put d v) := nr rfl
@[go_sem] theorem opK_binOp {o : BinOp} {T T' : TypeId} {x y : Operand} : opK P ⟨d, .binOp o T x y T', ty, pos, af, g⟩ s K = someK (abin P o T (ev s.t x) (ev s.t y)) fun v => K (s.put d v) := nr rfl
@[go_sem] theorem opK_unOp {o : UnOp} {T : TypeId} {x : Operand} : opK P ⟨d, .unOp o T x, ty, pos, af, g⟩ s K = someK (aun o (ev s.t x)) fun v => K (s.put d v) := nr rfl
@[go_sem] theorem opK_convert {S T : TypeId} {x : Operand} : opK P ⟨d, .convert S T x, ty, pos, af, g⟩ s K = someK (convS P s.h S T (ev s.t x)) fun v => K (s.put d v) := nr rfl
@[go_sem] theorem opK_indexAddr {T : TypeId} {x y : Operand} : opK P ⟨d, .indexAddr T x y, ty, pos, af, g⟩ s K = someK (idxAddrA P T (ev s.t x) (ev s.t y)) fun v => K (s.put d v) := nr rfl
@[go_sem] theorem opK_index {T : TypeId} {x y : Operand} : opK P ⟨d, .index T x y, ty, pos, af, g⟩ s K = someK (indexA P T (ev s.t x) (ev s.t y)) fun v => K (s.put d v) := nr rfl
@[go_sem] theorem opK_extract {x : Operand} {i : Nat} : opK P ⟨d, .extract x i, ty, pos, af, g⟩ s K = someK (extractA (ev s.t x) i) fun v => K (s.put d v) := nr rfl
@[go_sem] theorem opK_toArrPtr {T : TypeId} {x : Operand} : opK P ⟨d, .sliceToArrayPointer T x, ty, pos, af, g⟩ s K = someK (toArrPtrA P T (ev s.t x)) fun v => K (s.put d v) := nr rfl
@[go_sem] theorem opK_slice {T : TypeId} {x : Operand} {lo hi : Option Operand} : opK P ⟨d, .slice T x lo hi none, ty, pos, af, g⟩ s K = someK (aslice P s.h T (ev s.t x) (lo.map (ev s.t)) (hi.map (ev s.t))) fun v => K (s.put d v) := nr rfl

def fieldAddrA (P : Program) (S : TypeId) (f : Nat) : Value → Option Value
  | .pointer (some p) => (fieldsA P S).bind fun fs => (fs[f]?).bind fun fl => (tsz P fl.type).bind fun z => if z = 0 then none else some (.pointer (some ⟨p.block, p.off + fl.offset, none⟩))
  | _ => none
def fieldA (P : Program) (S : TypeId) (f : Nat) : Value → Option Value
  | .agg cs => (fieldsA P S).bind fun fs => (fs[f]?).bind fun fl => partA P fl.type cs.toList fl.offset
  | _ => none

@[go_sem] theorem opK_fieldAddr {S : TypeId} {x : Operand} {f : Nat} : opK P ⟨d, .fieldAddr S x f, ty, pos, af, g⟩ s K = someK (fieldAddrA P S f (ev s.t x)) fun v => K (s.put d v) := by
  show someK ((fieldsA P S).bind fun fs => (ptrA (ev s.t x)).bind fun p => (fs[f]?).bind fun fl => (tsz P fl.type).bind fun z => if z = 0 then none else some (Value.pointer (some ⟨p.block, p.off + fl.offset, none⟩))) _ = _
  congr 1
  unfold fieldAddrA ptrA
  cases fieldsA P S <;> split <;> simp_all
@[go_sem] theorem opK_field {S : TypeId} {x : Operand} {f : Nat} : opK P ⟨d, .field S x f, ty, pos, af, g⟩ s K = someK (fieldA P S f (ev s.t x)) fun v => K (s.put d v) := by
  show someK ((fieldsA P S).bind fun fs => (aggA (ev s.t x)).bind fun cs => (fs[f]?).bind fun fl => partA P fl.type cs fl.offset) _ = _
  congr 1
  unfold fieldA aggA
  cases fieldsA P S <;> split <;> simp_all

@[go_sem] theorem opK_build {T : TypeId} {ps : Array (Nat × Operand)} : opK P ⟨d, .build T ps, ty, pos, af, g⟩ s K = someK (buildA P T (ps.toList.map fun p => (p.1, ev s.t p.2))) fun v => K (s.put d v) := nr rfl

def allocA (P : Program) (h : List Blk) (T : TypeId) : Option (Value × List Blk) :=
  (tzero P T).bind fun z => (cellsA z).bind fun cs => if cs.all plainC = true then some (.pointer (some ⟨h.length, 0, none⟩), h ++ [⟨cs, true⟩]) else none
@[go_sem] theorem opK_alloc {T : TypeId} : opK P ⟨d, .alloc T, ty, pos, af, g⟩ s K = someK (allocA P s.h T) fun r => K (AS.put ⟨s.t, r.2⟩ d r.1) := nr rfl

def boxA (h : List Blk) (v : Value) : Option (Value × List Blk) := (cellsA v).map fun cs => (.pointer (some ⟨h.length, 0, none⟩), h ++ [⟨cs, true⟩])
@[go_sem] theorem opK_box {T : TypeId} {x : Operand} : opK P ⟨d, .box T x, ty, pos, af, g⟩ s K = someK (boxA s.h (ev s.t x)) fun r => K (AS.put ⟨s.t, r.2⟩ d r.1) := nr rfl
@[go_sem] theorem boxA_agg (h : List Blk) (cs : Array Value) : boxA h (.agg cs) = some (pt h.length 0, h ++ [⟨cs.toList, true⟩]) := nr rfl
@[go_sem] theorem boxA_int (h : List Blk) (k : IntKind) (n : Int) : boxA h (.int k n) = some (pt h.length 0, h ++ [⟨[.int k n], true⟩]) := nr rfl
@[go_sem] theorem boxA_B (h : List Blk) (x : UInt8) : boxA h (B x) = some (pt h.length 0, h ++ [⟨[B x], true⟩]) := nr rfl
@[go_sem] theorem boxA_pt (h : List Blk) (b o : Nat) : boxA h (pt b o) = some (pt h.length 0, h ++ [⟨[pt b o], true⟩]) := nr rfl
@[go_sem] theorem boxA_sl (h : List Blk) (b o n es : Nat) : boxA h (sl b o n es) = some (pt h.length 0, h ++ [⟨[sl b o n es], true⟩]) := nr rfl

def buildSliceA (P : Program) (h : List Blk) (T : TypeId) (len : Nat) (parts : List (Nat × Value)) : Option (Value × List Blk) :=
  match P.underlying T with
  | some (.slice e) => (tsz P e).bind fun z => (zerosA P e len).bind fun zs => if len * z ≤ 2 ^ 24 then
      (fillA (fun i => some (i * z, z)) zs parts).map fun cs => (.slice (some ⟨h.length, 0, none⟩) len z, h ++ [⟨cs, true⟩])
    else none
  | _ => none
@[go_sem] theorem opK_buildSlice {T : TypeId} {n : Nat} {ps : Array (Nat × Operand)} : opK P ⟨d, .buildSlice T n ps, ty, pos, af, g⟩ s K =
    someK (buildSliceA P s.h T n (ps.toList.map fun p => (p.1, ev s.t p.2))) fun r => K (AS.put ⟨s.t, r.2⟩ d r.1) := nr rfl

def makeSliceA (P : Program) (h : List Blk) (T : TypeId) (l c : Value) : Option (Value × List Blk) :=
  (intA l).bind fun n => (intA c).bind fun n' =>
    match P.underlying T with
    | some (.slice e) => (tsz P e).bind fun z => (tbytes P e).bind fun by' => (zerosA P e n.toNat).bind fun zs =>
      if n' = n ∧ 0 ≤ n ∧ 0 < by' ∧ roomOk n.toNat by' then some (.slice (some ⟨h.length, 0, none⟩) n.toNat z, h ++ [⟨zs, true⟩]) else none
    | _ => none
@[go_sem] theorem opK_makeSlice {T : TypeId} {l c : Operand} : opK P ⟨d, .makeSlice T l c, ty, pos, af, g⟩ s K =
    someK (makeSliceA P s.h T (ev s.t l) (ev s.t c)) fun r => K (AS.put ⟨s.t, r.2⟩ d r.1) := nr rfl

@[go_sem] theorem opK_len {x : Operand} {T : TypeId} : opK P ⟨d, .call ⟨.builtin .len, #[x], #[T]⟩, ty, pos, af, g⟩ s K = someK (alen P T (ev s.t x)) fun v => K (s.put d v) := nr rfl
@[go_sem] theorem opK_cap {x : Operand} {T : TypeId} : opK P ⟨d, .call ⟨.builtin .cap, #[x], #[T]⟩, ty, pos, af, g⟩ s K = someK (acap P T (ev s.t x)) fun v => K (s.put d v) := nr rfl
@[go_sem] theorem opK_min {x y : Operand} {ts : Array TypeId} : opK P ⟨d, .call ⟨.builtin .min, #[x, y], ts⟩, ty, pos, af, g⟩ s K = someK (amin (ev s.t x) (ev s.t y)) fun v => K (s.put d v) := nr rfl
@[go_sem] theorem opK_max {x y : Operand} {ts : Array TypeId} : opK P ⟨d, .call ⟨.builtin .max, #[x, y], ts⟩, ty, pos, af, g⟩ s K = someK (amax (ev s.t x) (ev s.t y)) fun v => K (s.put d v) := nr rfl
@[go_sem] theorem opK_append {x y : Operand} {T T' : TypeId} : opK P ⟨d, .call ⟨.builtin .append, #[x, y], #[T, T']⟩, ty, pos, af, g⟩ s K =
    someK (appendA P s.h T T' (ev s.t x) (ev s.t y)) fun r => K (AS.put ⟨s.t, r.2⟩ d r.1) := nr rfl
@[go_sem] theorem opK_copy {x y : Operand} {T T' : TypeId} : opK P ⟨d, .call ⟨.builtin .copy, #[x, y], #[T, T']⟩, ty, pos, af, g⟩ s K =
    someK (copyA P s.h T (ev s.t x) (ev s.t y)) fun r => K (AS.put ⟨s.t, r.2⟩ d r.1) := nr rfl
@[go_sem] theorem opK_call0 {f : FuncId} {ts : Array TypeId} : opK P ⟨d, .call ⟨.value (.func f), #[], ts⟩, ty, pos, af, g⟩ s K = callK P f [] s.h (contK K s.t d) := nr rfl
@[go_sem] theorem opK_call1 {f : FuncId} {ts : Array TypeId} {a : Operand} : opK P ⟨d, .call ⟨.value (.func f), #[a], ts⟩, ty, pos, af, g⟩ s K = callK P f [ev s.t a] s.h (contK K s.t d) := nr rfl
@[go_sem] theorem opK_call2 {f : FuncId} {ts : Array TypeId} {a b : Operand} : opK P ⟨d, .call ⟨.value (.func f), #[a, b], ts⟩, ty, pos, af, g⟩ s K = callK P f [ev s.t a, ev s.t b] s.h (contK K s.t d) := nr rfl
@[go_sem] theorem opK_call3 {f : FuncId} {ts : Array TypeId} {a b c : Operand} : opK P ⟨d, .call ⟨.value (.func f), #[a, b, c], ts⟩, ty, pos, af, g⟩ s K = callK P f [ev s.t a, ev s.t b, ev s.t c] s.h (contK K s.t d) := nr rfl
@[go_sem] theorem opK_call4 {f : FuncId} {ts : Array TypeId} {a b c e : Operand} : opK P ⟨d, .call ⟨.value (.func f), #[a, b, c, e], ts⟩, ty, pos, af, g⟩ s K = callK P f [ev s.t a, ev s.t b, ev s.t c, ev s.t e] s.h (contK K s.t d) := nr rfl

theorem call_k {f : FuncId} {args : List Value} {h : List Blk} {K : Value → List Blk → Prop} {v : Value} {h' : List Blk} (hc : AC P f args h v h') (hk : K v h') : callK P f args h K := ⟨v, h', hc, hk⟩

/-! #### In a region that draws its order -/
theorem opQ_of_qop (h1 : ∀ c, op ≠ .call c) : opQ P ⟨d, op, ty, pos, af, g⟩ s K = someK (qop P s.t s.h op) fun v => K (s.put d v) := by
  unfold opQ; split
  · rename_i c hc; exact absurd hc (h1 c)
  · rfl
@[go_sem] theorem opQ_move {x : Operand} : opQ P ⟨d, .move x, ty, pos, af, g⟩ s K = K (s.put d (ev s.t x)) := nr rfl
@[go_sem] theorem opQ_assign {x : Operand} : opQ P ⟨d, .assign x, ty, pos, af, g⟩ s K = K (s.put d (ev s.t x)) := nr rfl
@[go_sem] theorem opQ_pick {c x y : Operand} : opQ P ⟨d, .pick c x y, ty, pos, af, g⟩ s K = someK (pickA (ev s.t c) (ev s.t x) (ev s.t y)) fun v => K (s.put d v) := nr rfl
@[go_sem] theorem opQ_load {T : TypeId} {x : Operand} : opQ P ⟨d, .load T x, ty, pos, af, g⟩ s K = someK (loadP P s.h T (ev s.t x)) fun v => K (s.put d v) := by rw [← loadP_eq]; rfl
@[go_sem] theorem opQ_nilCheck {x : Operand} : opQ P ⟨d, .nilCheck x, ty, pos, af, g⟩ s K = someK ((ptrA (ev s.t x)).map fun p => .pointer (some p)) fun v => K (s.put d v) := nr rfl
@[go_sem] theorem opQ_binOp {o : BinOp} {T T' : TypeId} {x y : Operand} : opQ P ⟨d, .binOp o T x y T', ty, pos, af, g⟩ s K = someK (abin P o T (ev s.t x) (ev s.t y)) fun v => K (s.put d v) := nr rfl
@[go_sem] theorem opQ_unOp {o : UnOp} {T : TypeId} {x : Operand} : opQ P ⟨d, .unOp o T x, ty, pos, af, g⟩ s K = someK (aun o (ev s.t x)) fun v => K (s.put d v) := nr rfl
@[go_sem] theorem opQ_convert {S T : TypeId} {x : Operand} : opQ P ⟨d, .convert S T x, ty, pos, af, g⟩ s K = someK (convS P s.h S T (ev s.t x)) fun v => K (s.put d v) := nr rfl
@[go_sem] theorem opQ_indexAddr {T : TypeId} {x y : Operand} : opQ P ⟨d, .indexAddr T x y, ty, pos, af, g⟩ s K = someK (idxAddrA P T (ev s.t x) (ev s.t y)) fun v => K (s.put d v) := nr rfl
@[go_sem] theorem opQ_index {T : TypeId} {x y : Operand} : opQ P ⟨d, .index T x y, ty, pos, af, g⟩ s K = someK (indexA P T (ev s.t x) (ev s.t y)) fun v => K (s.put d v) := nr rfl
@[go_sem] theorem opQ_extract {x : Operand} {i : Nat} : opQ P ⟨d, .extract x i, ty, pos, af, g⟩ s K = someK (extractA (ev s.t x) i) fun v => K (s.put d v) := nr rfl
@[go_sem] theorem opQ_toArrPtr {T : TypeId} {x : Operand} : opQ P ⟨d, .sliceToArrayPointer T x, ty, pos, af, g⟩ s K = someK (toArrPtrA P T (ev s.t x)) fun v => K (s.put d v) := nr rfl
@[go_sem] theorem opQ_slice {T : TypeId} {x : Operand} {lo hi : Option Operand} : opQ P ⟨d, .slice T x lo hi none, ty, pos, af, g⟩ s K = someK (aslice P s.h T (ev s.t x) (lo.map (ev s.t)) (hi.map (ev s.t))) fun v => K (s.put d v) := nr rfl
@[go_sem] theorem opQ_fieldAddr {S : TypeId} {x : Operand} {f : Nat} : opQ P ⟨d, .fieldAddr S x f, ty, pos, af, g⟩ s K = someK (fieldAddrA P S f (ev s.t x)) fun v => K (s.put d v) := by
  show someK ((fieldsA P S).bind fun fs => (ptrA (ev s.t x)).bind fun p => (fs[f]?).bind fun fl => (tsz P fl.type).bind fun z => if z = 0 then none else some (Value.pointer (some ⟨p.block, p.off + fl.offset, none⟩))) _ = _
  congr 1
  unfold fieldAddrA ptrA
  cases fieldsA P S <;> split <;> simp_all
@[go_sem] theorem opQ_field {S : TypeId} {x : Operand} {f : Nat} : opQ P ⟨d, .field S x f, ty, pos, af, g⟩ s K = someK (fieldA P S f (ev s.t x)) fun v => K (s.put d v) := by
  show someK ((fieldsA P S).bind fun fs => (aggA (ev s.t x)).bind fun cs => (fs[f]?).bind fun fl => partA P fl.type cs fl.offset) _ = _
  congr 1
  unfold fieldA aggA
  cases fieldsA P S <;> split <;> simp_all
@[go_sem] theorem opQ_build {T : TypeId} {ps : Array (Nat × Operand)} : opQ P ⟨d, .build T ps, ty, pos, af, g⟩ s K = someK (buildA P T (ps.toList.map fun p => (p.1, ev s.t p.2))) fun v => K (s.put d v) := nr rfl
@[go_sem] theorem opQ_cap {x : Operand} {T : TypeId} : opQ P ⟨d, .call ⟨.builtin .cap, #[x], #[T]⟩, ty, pos, af, g⟩ s K = someK (acap P T (ev s.t x)) fun v => K (s.put d v) := nr rfl
@[go_sem] theorem opQ_len {x : Operand} {T : TypeId} : opQ P ⟨d, .call ⟨.builtin .len, #[x], #[T]⟩, ty, pos, af, g⟩ s K = someK (alen P T (ev s.t x)) fun v => K (s.put d v) := nr rfl

/-- A call in a region that draws its order. -/
def callQ (P : Program) (f : FuncId) (args : List Value) (h : List Blk) (K : Value → Prop) : Prop := ∃ v h', AC P f args (ro h) v h' ∧ plainV v = true ∧ K v
@[congr] theorem callQ_congr {P : Program} {f : FuncId} {args args' : List Value} {h h' : List Blk} {K : Value → Prop} (ha : args = args') (hh : h = h') : callQ P f args h K = callQ P f args' h' K := by rw [ha, hh]
@[go_sem] theorem opQ_call1 {f : FuncId} {ts : Array TypeId} {a : Operand} : opQ P ⟨d, .call ⟨.value (.func f), #[a], ts⟩, ty, pos, af, g⟩ s K = callQ P f [ev s.t a] s.h (contQ K s d) := nr rfl
@[go_sem] theorem opQ_call2 {f : FuncId} {ts : Array TypeId} {a b : Operand} : opQ P ⟨d, .call ⟨.value (.func f), #[a, b], ts⟩, ty, pos, af, g⟩ s K = callQ P f [ev s.t a, ev s.t b] s.h (contQ K s d) := nr rfl
@[go_sem] theorem opQ_call3 {f : FuncId} {ts : Array TypeId} {a b c : Operand} : opQ P ⟨d, .call ⟨.value (.func f), #[a, b, c], ts⟩, ty, pos, af, g⟩ s K = callQ P f [ev s.t a, ev s.t b, ev s.t c] s.h (contQ K s d) := nr rfl
@[go_sem] theorem opQ_call4 {f : FuncId} {ts : Array TypeId} {a b c e : Operand} : opQ P ⟨d, .call ⟨.value (.func f), #[a, b, c, e], ts⟩, ty, pos, af, g⟩ s K = callQ P f [ev s.t a, ev s.t b, ev s.t c, ev s.t e] s.h (contQ K s d) := nr rfl
theorem call_q {f : FuncId} {args : List Value} {h : List Blk} {K : Value → Prop} {v : Value} {h' : List Blk} (hc : AC P f args (ro h) v h') (hp : plainV v = true) (hk : K v) : callQ P f args h K := ⟨v, h', hc, hp, hk⟩

/-! ### Memory -/

def loadCell : Option Blk → Nat → Option Value
  | some k, off => k.cells[off]?
  | none, _ => none
def loadRow : Option Blk → Nat → Nat → Option Value
  | some k, off, n => if off + n ≤ k.cells.length then some (.agg (sub k.cells off n).toArray) else none
  | none, _, _ => none

theorem loadP_cell {T : TypeId} (ht : tagg P T = some false) (h : List Blk) (b o : Nat) : loadP P h T (pt b o) = loadCell (h[b]?) o := by
  show loadA P h T _ = _
  unfold loadA; rw [ht]; simp only; cases h[b]? <;> rfl
theorem loadP_row {T n : Nat} (ht : tagg P T = some true) (hz : tsz P T = some n) (h : List Blk) (b o : Nat) : loadP P h T (pt b o) = loadRow (h[b]?) o n := by
  show loadA P h T _ = _
  unfold loadA; rw [ht]; simp only [hz, Option.bind_some]; cases h[b]? <;> rfl

@[go_sem] theorem loadCell_some (cs : List Value) (r : Bool) (o : Nat) : loadCell (some ⟨cs, r⟩) o = cs[o]? := nr rfl
@[go_sem] theorem get_Bs {n i : Nat} {f : Nat → UInt8} (h : i < n) : (Bs n f)[i]? = some (B (f i)) := Bs_get h
@[go_sem] theorem get_Is {n i : Nat} {f : Nat → Int} (h : i < n) : (Is n f)[i]? = some (.int .i64 (f i)) := Is_get h
@[go_sem] theorem get_Vs {n i : Nat} {f : Nat → Value} (h : i < n) : (Vs n f)[i]? = some (f i) := Vs_get h
@[go_sem] theorem get_Bl {l : List UInt8} {i : Nat} (h : i < l.length) : (Bl l)[i]? = some (B (l.getD i 0)) := Bl_get h
@[go_sem] theorem get_Il {l : List Int} {i : Nat} (h : i < l.length) : (Il l)[i]? = some (.int .i64 (l.getD i 0)) := Il_get h

theorem loadRow_gen {cs : List Value} {r : Bool} {o n : Nat} (h : o + n ≤ cs.length) : loadRow (some ⟨cs, r⟩) o n = some (.agg (sub cs o n).toArray) := if_pos h
@[go_sem] theorem loadRow_Bs_all (n : Nat) (f : Nat → UInt8) (r : Bool) : loadRow (some ⟨Bs n f, r⟩) 0 n = some (.agg (Bs n f).toArray) := by
  rw [loadRow_gen (by simp [Bs_length]), Bs_sub_all]
@[go_sem] theorem loadRow_Is_all (n : Nat) (f : Nat → Int) (r : Bool) : loadRow (some ⟨Is n f, r⟩) 0 n = some (.agg (Is n f).toArray) := by
  rw [loadRow_gen (by simp [Is_length]), Is_sub_all]
@[go_sem] theorem loadRow_Vs_all (n : Nat) (f : Nat → Value) (r : Bool) : loadRow (some ⟨Vs n f, r⟩) 0 n = some (.agg (Vs n f).toArray) := by
  rw [loadRow_gen (by simp [Vs_length]), Vs_sub_all]
@[go_sem low] theorem loadRow_Bs {n o m : Nat} {f : Nat → UInt8} {r : Bool} (h : o + m ≤ n) : loadRow (some ⟨Bs n f, r⟩) o m = some (.agg (Bs m fun i => f (o + i)).toArray) := by
  rw [loadRow_gen (by simpa [Bs_length] using h), Bs_sub h]
@[go_sem low] theorem loadRow_Is {n o m : Nat} {f : Nat → Int} {r : Bool} (h : o + m ≤ n) : loadRow (some ⟨Is n f, r⟩) o m = some (.agg (Is m fun i => f (o + i)).toArray) := by
  rw [loadRow_gen (by simpa [Is_length] using h), Is_sub h]
@[go_sem low] theorem loadRow_Vs {n o m : Nat} {f : Nat → Value} {r : Bool} (h : o + m ≤ n) : loadRow (some ⟨Vs n f, r⟩) o m = some (.agg (Vs m fun i => f (o + i)).toArray) := by
  rw [loadRow_gen (by simpa [Vs_length] using h), Vs_sub h]

/-- A store of one cell. -/
def storeCell (h : List Blk) (b : Nat) (ob : Option Blk) (o : Nat) (v : Value) : Option (Value × List Blk) :=
  match ob with
  | some k => if k.rw = true ∧ o < k.cells.length then some (J, h.set b ⟨k.cells.set o v, true⟩) else none
  | none => none
/-- A store of a row. -/
def storeRow (h : List Blk) (b : Nat) (ob : Option Blk) (o n : Nat) (cs : List Value) : Option (Value × List Blk) :=
  match ob with
  | some k => if k.rw = true ∧ cs.length = n ∧ o + cs.length ≤ k.cells.length then some (J, h.set b ⟨splice k.cells o cs, true⟩) else none
  | none => none

theorem storeP_cell {T : TypeId} (hz : tsz P T = some 1) {v : Value} (hv : cellsA v = some [v]) (h : List Blk) (b o : Nat) : storeP P h T v (pt b o) = storeCell h b (h[b]?) o v := by
  show (storeA P h T _ v).map _ = _
  unfold storeA storeCell
  simp only [hv, hz, Option.bind_some, List.length_singleton]
  cases h[b]? with
  | none => rfl
  | some k =>
    simp only [Option.bind_some]
    by_cases hc : k.rw = true ∧ o < k.cells.length
    · rw [if_pos hc, if_pos ⟨hc.1, trivial, by omega⟩, splice_one hc.2]; rfl
    · rw [if_neg hc, if_neg (fun h => hc ⟨h.1, by have := h.2.2; omega⟩)]; rfl
theorem storeP_row {T n : Nat} (hz : tsz P T = some n) (cs : Array Value) (h : List Blk) (b o : Nat) : storeP P h T (.agg cs) (pt b o) = storeRow h b (h[b]?) o n cs.toList := by
  show (storeA P h T _ _).map _ = _
  unfold storeA storeRow
  simp only [cellsA, hz, Option.bind_some]
  cases h[b]? with
  | none => rfl
  | some k => simp only [Option.bind_some]; split <;> rfl

theorem storeP_int {T : TypeId} (hz : tsz P T = some 1) (k : IntKind) (n : Int) (h : List Blk) (b o : Nat) : storeP P h T (.int k n) (pt b o) = storeCell h b (h[b]?) o (.int k n) := storeP_cell hz rfl h b o
theorem storeP_B {T : TypeId} (hz : tsz P T = some 1) (x : UInt8) (h : List Blk) (b o : Nat) : storeP P h T (B x) (pt b o) = storeCell h b (h[b]?) o (B x) := storeP_cell hz rfl h b o
theorem storeP_bool {T : TypeId} (hz : tsz P T = some 1) (x : Bool) (h : List Blk) (b o : Nat) : storeP P h T (.bool x) (pt b o) = storeCell h b (h[b]?) o (.bool x) := storeP_cell hz rfl h b o
theorem storeP_string {T : TypeId} (hz : tsz P T = some 1) (x : ByteArray) (h : List Blk) (b o : Nat) : storeP P h T (.string x) (pt b o) = storeCell h b (h[b]?) o (.string x) := storeP_cell hz rfl h b o
theorem storeP_pt {T : TypeId} (hz : tsz P T = some 1) (c q : Nat) (h : List Blk) (b o : Nat) : storeP P h T (pt c q) (pt b o) = storeCell h b (h[b]?) o (pt c q) := storeP_cell hz rfl h b o
theorem storeP_sl {T : TypeId} (hz : tsz P T = some 1) (c q n es : Nat) (h : List Blk) (b o : Nat) : storeP P h T (sl c q n es) (pt b o) = storeCell h b (h[b]?) o (sl c q n es) := storeP_cell hz rfl h b o
theorem storeP_nil {T : TypeId} (hz : tsz P T = some 1) (n c : Nat) (h : List Blk) (b o : Nat) : storeP P h T (.slice none n c) (pt b o) = storeCell h b (h[b]?) o (.slice none n c) := storeP_cell hz rfl h b o

theorem storeCell_gen {h : List Blk} {b : Nat} {cs : List Value} {o : Nat} {v : Value} (hc : o < cs.length) : storeCell h b (some ⟨cs, true⟩) o v = some (J, h.set b ⟨cs.set o v, true⟩) := if_pos ⟨rfl, hc⟩
@[go_sem] theorem storeCell_Bs {h : List Blk} {b n : Nat} {f : Nat → UInt8} {o : Nat} {x : UInt8} (hc : o < n) : storeCell h b (some ⟨Bs n f, true⟩) o (B x) = some (J, h.set b ⟨Bs n (upd f o x), true⟩) := by
  rw [storeCell_gen (by simpa [Bs_length] using hc), Bs_set]
@[go_sem] theorem storeCell_Is {h : List Blk} {b n : Nat} {f : Nat → Int} {o : Nat} {x : Int} (hc : o < n) : storeCell h b (some ⟨Is n f, true⟩) o (.int .i64 x) = some (J, h.set b ⟨Is n (upd f o x), true⟩) := by
  rw [storeCell_gen (by simpa [Is_length] using hc), Is_set]
@[go_sem] theorem storeCell_Vs {h : List Blk} {b n : Nat} {f : Nat → Value} {o : Nat} {x : Value} (hc : o < n) : storeCell h b (some ⟨Vs n f, true⟩) o x = some (J, h.set b ⟨Vs n (upd f o x), true⟩) := by
  rw [storeCell_gen (by simpa [Vs_length] using hc), Vs_set]
theorem storeCell_lit {h : List Blk} {b : Nat} {x y : Value} {cs : List Value} {o : Nat} {v : Value} (hc : o < (x :: y :: cs).length) : storeCell h b (some ⟨x :: y :: cs, true⟩) o v = some (J, h.set b ⟨(x :: y :: cs).set o v, true⟩) := storeCell_gen hc
@[go_sem] theorem storeCell_one {h : List Blk} {b : Nat} {x v : Value} : storeCell h b (some ⟨[x], true⟩) 0 v = some (J, h.set b ⟨[v], true⟩) := storeCell_gen (by simp)

theorem storeRow_all {h : List Blk} {b n : Nat} {cs ds : List Value} (h1 : ds.length = n) (h2 : cs.length = n) : storeRow h b (some ⟨cs, true⟩) 0 n ds = some (J, h.set b ⟨ds, true⟩) := by
  unfold storeRow
  simp only
  rw [if_pos ⟨trivial, h1, by omega⟩, splice_all (by omega)]
theorem storeRow_gen {h : List Blk} {b n o : Nat} {cs ds : List Value} (h1 : ds.length = n) (h2 : o + n ≤ cs.length) : storeRow h b (some ⟨cs, true⟩) o n ds = some (J, h.set b ⟨splice cs o ds, true⟩) := by
  unfold storeRow
  simp only
  rw [if_pos ⟨trivial, h1, by omega⟩]
@[go_sem] theorem storeRow_Bs_all {h : List Blk} {b n : Nat} {f f' : Nat → UInt8} : storeRow h b (some ⟨Bs n f, true⟩) 0 n (Bs n f') = some (J, h.set b ⟨Bs n f', true⟩) := storeRow_all (Bs_length ..) (Bs_length ..)
@[go_sem] theorem storeRow_Is_all {h : List Blk} {b n : Nat} {f f' : Nat → Int} : storeRow h b (some ⟨Is n f, true⟩) 0 n (Is n f') = some (J, h.set b ⟨Is n f', true⟩) := storeRow_all (Is_length ..) (Is_length ..)
@[go_sem] theorem storeRow_Vs_all {h : List Blk} {b n : Nat} {f f' : Nat → Value} : storeRow h b (some ⟨Vs n f, true⟩) 0 n (Vs n f') = some (J, h.set b ⟨Vs n f', true⟩) := storeRow_all (Vs_length ..) (Vs_length ..)

/-- A row of bytes with a shorter one laid over it. -/
def over (f : Nat → UInt8) (o m : Nat) (f' : Nat → UInt8) : Nat → UInt8 := fun j => if o ≤ j ∧ j < o + m then f' (j - o) else f j
theorem splice_Bs {n o m : Nat} {f f' : Nat → UInt8} (h : o + m ≤ n) : splice (Bs n f) o (Bs m f') = Bs n (over f o m f') := by
  apply List.ext_getElem?
  intro j
  rw [splice_get (by simpa [Bs_length] using h), Bs_length]
  rcases Nat.lt_or_ge j n with hj | hj
  · rw [Bs_get (f := over f o m f') hj]
    unfold over
    split
    · rename_i hc; rw [Bs_get (by omega)]
    · rename_i hc; rw [Bs_get hj]
  · rw [if_neg (by omega)]
    rw [List.getElem?_eq_none (by simpa [Bs_length] using hj), List.getElem?_eq_none (by simpa [Bs_length] using hj)]
@[go_sem low] theorem storeRow_Bs {h : List Blk} {b n o m : Nat} {f f' : Nat → UInt8} (hc : o + m ≤ n) : storeRow h b (some ⟨Bs n f, true⟩) o m (Bs m f') = some (J, h.set b ⟨Bs n (over f o m f'), true⟩) := by
  rw [storeRow_gen (Bs_length ..) (by simpa [Bs_length] using hc), splice_Bs hc]

/-! ### The heap, as what came in and what was laid since -/

@[go_sem] theorem heap_push (H L : List Blk) (x : Blk) : (H ++ L) ++ [x] = H ++ (L ++ [x]) := List.append_assoc ..
@[go_sem] theorem list_push_nil (x : Blk) : ([] : List Blk) ++ [x] = [x] := nr rfl
@[go_sem] theorem list_push_cons (y x : Blk) (L : List Blk) : (y :: L) ++ [x] = y :: (L ++ [x]) := nr rfl
@[go_sem] theorem heap_len (H L : List Blk) : (H ++ L).length = H.length + L.length := List.length_append
@[go_sem] theorem len_nil : ([] : List Blk).length = 0 := nr rfl
@[go_sem] theorem len_cons (x : Blk) (L : List Blk) : (x :: L).length = L.length + 1 := nr rfl
@[go_sem] theorem look_new (H L : List Blk) (k : Nat) : (H ++ L)[H.length + k]? = L[k]? := by
  rw [List.getElem?_append_right (by omega)]; congr 1; omega
@[go_sem] theorem look_new0 (H L : List Blk) : (H ++ L)[H.length]? = L[0]? := by
  rw [List.getElem?_append_right (by omega)]; simp
theorem look_old {H : List Blk} {b : Nat} {k : Blk} (hb : H[b]? = some k) (L : List Blk) : (H ++ L)[b]? = some k := by
  rw [List.getElem?_append_left (List.getElem?_eq_some_iff.1 hb).1]; exact hb
@[go_sem] theorem set_new (H L : List Blk) (k : Nat) (x : Blk) : (H ++ L).set (H.length + k) x = H ++ L.set k x := by
  rw [List.set_append_right _ _ (by omega)]; congr 2; omega
@[go_sem] theorem set_new0 (H L : List Blk) (x : Blk) : (H ++ L).set H.length x = H ++ L.set 0 x := by
  rw [List.set_append_right _ _ (by omega)]; simp
@[go_sem] theorem blk_set_zero (x y : Blk) (l : List Blk) : (x :: l).set 0 y = y :: l := nr rfl
@[go_sem] theorem blk_set_succ (x y : Blk) (l : List Blk) (i : Nat) : (x :: l).set (i + 1) y = x :: l.set i y := nr rfl
theorem set_old {H : List Blk} {b : Nat} (hb : b < H.length) (L : List Blk) (x : Blk) : (H ++ L).set b x = H.set b x ++ L := List.set_append_left _ _ hb

attribute [go_sem] Nat.add_zero Nat.zero_add List.toList_toArray Option.map_some Option.map_none Option.bind_some

end
end Go.Abs
