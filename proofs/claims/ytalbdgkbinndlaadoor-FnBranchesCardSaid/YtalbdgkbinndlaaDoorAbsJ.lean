/- The abstract machine, part J: how a walk begins, goes round, and ends. Generic: no program in sight. -/
import Derived.Test.YtalbdgkbinndlaaDoorAbsI
namespace Go.Abs
set_option linter.unusedSimpArgs false
set_option linter.unusedVariables false
set_option maxRecDepth 20000
set_option maxHeartbeats 1000000

@[go_sem] theorem Then_normal (K : AS → Prop) (Q : Exit → AS → Prop) (s : AS) : Then K Q .normal s = K s := nr rfl
@[go_sem] theorem Then_exit (K : AS → Prop) (Q : Exit → AS → Prop) (i : Nat) (s : AS) : Then K Q (.exit i) s = Q (.exit i) s := nr rfl
@[go_sem] theorem Then_ret (K : AS → Prop) (Q : Exit → AS → Prop) (s : AS) : Then K Q .ret s = Q .ret s := nr rfl
@[go_sem] theorem InBlock_normal (i : Nat) (Q : Exit → AS → Prop) (s : AS) : InBlock i Q .normal s = Q .normal s := nr rfl
@[go_sem] theorem InBlock_ret (i : Nat) (Q : Exit → AS → Prop) (s : AS) : InBlock i Q .ret s = Q .ret s := nr rfl
@[go_sem] theorem InBlock_same (i : Nat) (Q : Exit → AS → Prop) (s : AS) : InBlock i Q (.exit i) s = Q .normal s := if_pos rfl
@[go_sem] theorem InBlock_other {i j : Nat} (h : j ≠ i) (Q : Exit → AS → Prop) (s : AS) : InBlock i Q (.exit j) s = Q (.exit j) s := if_neg h

@[congr] theorem Then_congr {K : AS → Prop} {Q : Exit → AS → Prop} {e : Exit} {s s' : AS} (h : s = s') : Then K Q e s = Then K Q e s' := by rw [h]
@[congr] theorem InBlock_congr {i : Nat} {Q : Exit → AS → Prop} {e : Exit} {s s' : AS} (h : s = s') : InBlock i Q e s = InBlock i Q e s' := by rw [h]

/-- Every address in a memory is one of its own. -/
def WfH (h : List Blk) : Prop := ∀ (b : Nat) (k : Blk), h[b]? = some k → ∀ c ∈ k.cells, wfC h.length c

theorem HR.wf {E : Emb} {h : List Blk} {w : World} (hr : HR E h w) : WfH h := fun b k hb c hc => by
  obtain ⟨i, hi⟩ := List.getElem?_of_mem hc
  obtain ⟨y, _, hcr⟩ := hr.cell b k i c hb hi
  exact hcr.wf

theorem AC_begin {P : Program} {f : FuncId} {fn : Func} {c : Code} {n : Nat} {rs : Array ResultVar} {args : List Value} {h h' : List Blk} {v : Value} (hcall : CallOk P f) (hf : P.funcs[f]? = some fn) (hb : fn.body = some c)
    (hn : fn.ntmps = n) (hr : fn.results = rs) (hw : WfH h → WA P h.length c (Ret P rs.toList h v h') ⟨args ++ List.replicate (n - args.length) J, h⟩) : AC P f args h v h' :=
  ⟨hcall, fun E w args' hr' hargs => (AC_intro hcall hf hb hn hr (hw hr'.wf)).2 E w args' hr' hargs⟩

section
variable {P : Program} {Q : Exit → AS → Prop} {s : AS} {n0 : Nat}

theorem WA_cond_t {c : Operand} {x y : Code} {b : Bool} (hc : ev s.t c = .bool b) (hb : b = true) (h : WA P n0 x Q s) : WA P n0 (.cond c x y) Q s :=
  WA_cond hc (fun _ => h) (fun h' => by rw [hb] at h'; cases h')
theorem WA_cond_f {c : Operand} {x y : Code} {b : Bool} (hc : ev s.t c = .bool b) (hb : b = false) (h : WA P n0 y Q s) : WA P n0 (.cond c x y) Q s :=
  WA_cond hc (fun h' => by rw [hb] at h'; cases h') (fun _ => h)

/-- Some slots given up. -/
def JL : List Value → List Value → Prop
  | [], [] => True
  | a :: l, b :: l' => (b = J ∨ a = b) ∧ JL l l'
  | _, _ => False

theorem JL_nil : JL [] [] = True := rfl
theorem JL_J (a : Value) (l l' : List Value) : JL (a :: l) (J :: l') = JL l l' := by simp [JL]
theorem JL_same (a : Value) (l l' : List Value) : JL (a :: l) (a :: l') = JL l l' := by simp [JL]
theorem JL_refl : ∀ l : List Value, JL l l
  | [] => trivial
  | a :: l => ⟨.inr rfl, JL_refl l⟩
theorem JL_cons {a b : Value} {l l' : List Value} (h : a = b) (h' : JL l l') : JL (a :: l) (b :: l') := ⟨.inr h, h'⟩

theorem JL_sound {E : Emb} {n : Nat} : ∀ {l l' ys : List Value}, JL l l' → P2 (VR E n) l ys → P2 (VR E n) l' ys
  | [], [], ys, _, h => h
  | _ :: l, b :: l', [], _, h => by have := h.1; simp at this
  | a :: l, b :: l', y :: ys, hj, h => by
    have h0 := h.2 0 a y rfl rfl
    have ht : P2 (VR E n) l ys := ⟨by have := h.1; simpa using this, fun i x z hx hz => h.2 (i + 1) x z hx hz⟩
    refine P2.cons ?_ (JL_sound hj.2 ht)
    rcases hj.1 with rfl | rfl
    · exact VR.junk
    · exact h0

theorem Drop_slots {n : Nat} {t t' : List Value} {h : List Blk} (hn : n ≤ h.length) (hj : JL t t') : Drop n ⟨t, h⟩ ⟨t', h⟩ :=
  Drop.plain (fun _ _ _ hs => ⟨hs.mem, JL_sound hj hs.tmps, hs.defers⟩) hn fun _ k hb hk => ⟨k, hb, hk⟩

/-- Some slots given up, and memory cut back. -/
theorem Drop_cut {n : Nat} {t t' : List Value} {h G : List Blk} (hn : n ≤ h.length) (hj : JL t t') (hw : ∀ v ∈ t', wfV h.length v) (hh : WfH h) : Drop n ⟨t, h ++ G⟩ ⟨t', h⟩ :=
  Drop.plain (fun _ _ _ hs => ⟨hs.mem.cut hh, (JL_sound hj hs.tmps).down hw fun _ _ hw hv => hv.down hw, hs.defers⟩) hn
    fun b k hb hk => ⟨k, by rw [List.getElem?_append_left (List.getElem?_eq_some_iff.1 hb).1]; exact hb, hk⟩

theorem WfH.append {H L : List Blk} (hH : WfH H) (hL : ∀ k ∈ L, ∀ c ∈ k.cells, wfC (H.length + L.length) c) : WfH (H ++ L) := fun b k hb c hc => by
  rw [List.length_append]
  rw [List.getElem?_append] at hb
  split at hb
  · exact (hH b k hb c hc).mono (by omega)
  · exact hL k (List.mem_of_getElem? hb) c hc

/-- A loop whose state after k rounds is told by a function, from whatever state holds at least that. -/
theorem WA_forD {c : Code} (S : Nat → AS) (n : Nat) (hs : Drop n0 s (S 0))
    (step : ∀ k, k < n → WA P n0 c (Then (fun s' => Drop n0 s' (S (k + 1))) Q) (S k))
    (done : WA P n0 c (Then (fun _ => False) Q) (S n)) : WA P n0 (.loop c) Q s := WA_pre hs (WA_for S n rfl step done)

theorem Final_same {h0 L : List Blk} {t : List Value} {v : Value} (hv : plainV v = true) : Final h0 ⟨t, h0 ++ L⟩ v h0 :=
  ⟨Nat.le_refl _, L, rfl, .inr ⟨plainV_wf hv, fun _ _ hb => .inl hb⟩⟩
theorem Final_none {h0 : List Blk} {t : List Value} {v : Value} : Final h0 ⟨t, h0⟩ v h0 :=
  ⟨Nat.le_refl _, [], (List.append_nil _).symm, .inl rfl⟩

/-- A function that leaves memory as it was. -/
theorem ret_same {rs : List ResultVar} {h0 L : List Blk} {t : List Value} {v : Value} {e : Exit} (he : e = .normal ∨ e = .ret) (hr : aresults P rs ⟨t, h0 ++ L⟩ = some v) (hv : plainV v = true) : Ret P rs h0 v h0 e ⟨t, h0 ++ L⟩ := ⟨he, hr, Final_same hv⟩
theorem ret_none {rs : List ResultVar} {h0 : List Blk} {t : List Value} {v : Value} {e : Exit} (he : e = .normal ∨ e = .ret) (hr : aresults P rs ⟨t, h0⟩ = some v) : Ret P rs h0 v h0 e ⟨t, h0⟩ := ⟨he, hr, Final_none⟩

@[go_sem] theorem ares_one (r : ResultVar) : aresults P [r] s = ares1 P s r := nr rfl
@[go_sem] theorem ares1_tmp (i : Nat) : ares1 P s (.tmp i) = some ((s.t[i]?).getD J) := nr rfl
theorem ares1_cell' (i T : Nat) : ares1 P s (.cell i T) = loadP P s.h T ((s.t[i]?).getD J) := by
  rw [← loadP_eq]; rfl
attribute [go_sem] ares1_cell'
def tupR (a b : Option Value) : Option Value :=
  match a, b with
  | some a, some b => if (!isTup a && !isTup b) = true then some (.tuple #[a, b]) else none
  | _, _ => none
@[go_sem] theorem ares_two (r r' : ResultVar) : aresults P [r, r'] s = tupR (ares1 P s r) (ares1 P s r') := by
  unfold aresults tupR
  simp only [mapO]
  cases ares1 P s r with
  | none => rfl
  | some a =>
    cases ares1 P s r' with
    | none => rfl
    | some b => simp [Option.bind, Option.map]
def notTup : Value → Bool
  | .tuple _ => false
  | _ => true
@[go_sem] theorem tupR_some {a b : Value} (ha : isTup a = false) (hb : isTup b = false) : tupR (some a) (some b) = some (.tuple #[a, b]) := by
  unfold tupR; simp [ha, hb]
@[go_sem] theorem isTup_int (k : IntKind) (n : Int) : isTup (.int k n) = false := nr rfl
@[go_sem] theorem isTup_B (x : UInt8) : isTup (B x) = false := nr rfl
@[go_sem] theorem isTup_bool (x : Bool) : isTup (.bool x) = false := nr rfl
@[go_sem] theorem isTup_agg (x : Array Value) : isTup (.agg x) = false := nr rfl
@[go_sem] theorem isTup_string (x : ByteArray) : isTup (.string x) = false := nr rfl
@[go_sem] theorem isTup_pt (b o : Nat) : isTup (pt b o) = false := nr rfl
@[go_sem] theorem isTup_sl (b o n es : Nat) : isTup (sl b o n es) = false := nr rfl
@[go_sem] theorem isTup_nil (n c : Nat) : isTup (.slice none n c) = false := nr rfl

theorem plain_agg {l : List Value} (h : l.all plainC = true) : plainV (.agg l.toArray) = true := h
theorem plain_two {a b : Value} (ha : plain1 a = true) (hb : plain1 b = true) : plainV (.tuple #[a, b]) = true := by simp [plainV, ha, hb]

theorem beq_t {a b : Int} (h : a = b) : (a == b) = true := by simp [h]
theorem beq_f {a b : Int} (h : a ≠ b) : (a == b) = false := by simp [h]
theorem bne_t {a b : Int} (h : a ≠ b) : (a != b) = true := by simp [h]
theorem bne_f {a b : Int} (h : a = b) : (a != b) = false := by simp [h]

theorem callK_intro {f : FuncId} {args : List Value} {h h' : List Blk} {v : Value} {K : Value → List Blk → Prop} (hc : AC P f args h v h') (hk : K v h') : callK P f args h K := ⟨v, h', hc, hk⟩

theorem WA_false {c : Code} (h : False) : WA P n0 c Q s := h.elim

end
end Go.Abs
