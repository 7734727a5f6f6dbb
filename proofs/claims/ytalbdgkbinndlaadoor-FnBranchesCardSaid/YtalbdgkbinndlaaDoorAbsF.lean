/- The abstract machine, part F: the rules by which code is walked over abstract states; calls by contracts; loops. Generic: no program in sight. -/
import Derived.Test.YtalbdgkbinndlaaDoorAbsE
import Derived.Deep.Quiet
namespace Go.Abs
set_option linter.unusedSimpArgs false
set_option linter.unusedVariables false
set_option maxRecDepth 20000
set_option maxHeartbeats 1000000

structure AS where
  t : List Value
  h : List Blk

def AS.put (s : AS) (d : Option Tmp) (v : Value) : AS :=
  match d with
  | some d => ⟨s.t.set d v, s.h⟩
  | none => s

structure SR (E : Emb) (s : AS) (a : Act) (w : World) : Prop where
  mem : HR E s.h w
  tmps : P2 (VR E s.h.length) s.t a.tmps.toList
  defers : a.defers = []

/-- One state is reached from another, in which the first n blocks are where they were. -/
structure LinkN (n : Nat) (E : Emb) (H : List Blk) (w : World) (E' : Emb) (H' : List Blk) (w' : World) : Prop where
  len : n ≤ H'.length
  loc : ∀ b, b < n → E'.loc b = E.loc b
  room : ∀ b, b < n → E'.room b = E.room b ∧ E'.base b = E.base b
  size : w.heap.size ≤ w'.heap.size
  os : w'.os = w.os
  tape : w'.tape = w.tape
  output : w'.output = w.output
  frame : ∀ i, i < w.heap.size → (∀ (b : Nat) (k : Blk), H[b]? = some k → k.rw = true → E.loc b ≠ i) → w'.heap[i]? = w.heap[i]?
  own : ∀ (b : Nat) (k : Blk), H'[b]? = some k → k.rw = true → w.heap.size ≤ E'.loc b ∨ ∃ b0 k0, H[b0]? = some k0 ∧ k0.rw = true ∧ E.loc b0 = E'.loc b

theorem Link.toN {E E' : Emb} {H H' : List Blk} {w w' : World} (h : Link E H w E' H' w') {n : Nat} (hn : n ≤ H.length) : LinkN n E H w E' H' w' :=
  ⟨Nat.le_trans hn h.len, fun b hb => h.loc b (Nat.lt_of_lt_of_le hb hn), fun b hb => h.room b (Nat.lt_of_lt_of_le hb hn), h.size, h.os, h.tape, h.output, h.frame, h.own⟩

theorem LinkN.full {E E' : Emb} {H H' : List Blk} {w w' : World} (h : LinkN H.length E H w E' H' w') : Link E H w E' H' w' :=
  ⟨h.len, h.loc, h.room, h.size, h.os, h.tape, h.output, h.frame, h.own⟩

theorem LinkN.refl {n : Nat} (E : Emb) {H : List Blk} (w : World) (hn : n ≤ H.length) : LinkN n E H w E H w := (Link.refl E H w).toN hn

theorem LinkN.trans {n : Nat} {E E' E'' : Emb} {H H' H'' : List Blk} {w w' w'' : World} (h : LinkN n E H w E' H' w') (h' : LinkN n E' H' w' E'' H'' w'') : LinkN n E H w E'' H'' w'' where
  len := h'.len
  loc b hb := (h'.loc b hb).trans (h.loc b hb)
  room b hb := ⟨(h'.room b hb).1.trans (h.room b hb).1, (h'.room b hb).2.trans (h.room b hb).2⟩
  size := Nat.le_trans h.size h'.size
  os := h'.os.trans h.os
  tape := h'.tape.trans h.tape
  output := h'.output.trans h.output
  frame i hi hn := by
    refine (h'.frame i (Nat.lt_of_lt_of_le hi h.size) fun b k hb hk he => ?_).trans (h.frame i hi hn)
    rcases h.own b k hb hk with h1 | ⟨b0, k0, h1, h2, h3⟩
    · omega
    · exact hn b0 k0 h1 h2 (h3.trans he)
  own b k hb hk := by
    rcases h'.own b k hb hk with h1 | ⟨b0, k0, h1, h2, h3⟩
    · exact .inl (Nat.le_trans h.size h1)
    · rcases h.own b0 k0 h1 h2 with h4 | ⟨b1, k1, h4, h5, h6⟩
      · exact .inl (h3 ▸ h4)
      · exact .inr ⟨b1, k1, h4, h5, h6.trans h3⟩

def Post (n : Nat) (Q : Exit → AS → Prop) (E : Emb) (h : List Blk) (w : World) : Exit → Act → World → Prop :=
  fun e a w' => ∃ E' s', Q e s' ∧ SR E' s' a w' ∧ LinkN n E h w E' s'.h w'

/-- From this abstract state the code comes to an end of which Q holds. -/
def WA (P : Program) (n : Nat) (c : Code) (Q : Exit → AS → Prop) (s : AS) : Prop :=
  ∀ (E : Emb) (a : Act) (w : World), n ≤ s.h.length → SR E s a w → c.wp P (Post n Q E s.h w) a w

def CallOk (P : Program) (f : FuncId) : Prop := ∀ (args : Array Value) (w : World), (callFunc f args).run P w = .ok (.enter f args) w

/-- The contract of a function: called with these values over this memory it returns this value and leaves this memory. -/
def AC (P : Program) (f : FuncId) (args : List Value) (h : List Blk) (v : Value) (h' : List Blk) : Prop :=
  CallOk P f ∧ ∀ (E : Emb) (w : World) (args' : Array Value), HR E h w → P2 (VR E h.length) args args'.toList →
    Calls P f args' w (fun e w' => ∃ E' v', e = .returned v' ∧ VR E' h'.length v v' ∧ HR E' h' w' ∧ Link E h w E' h' w')

def someK {α : Type} (o : Option α) (K : α → Prop) : Prop :=
  match o with
  | some x => K x
  | none => False

theorem someK_some {α : Type} (x : α) (K : α → Prop) : someK (some x) K = K x := rfl

def callK (P : Program) (f : FuncId) (args : List Value) (h : List Blk) (K : Value → List Blk → Prop) : Prop := ∃ v h', AC P f args h v h' ∧ K v h'

/-- One operation. -/
def opK (P : Program) (o : Oper) (s : AS) (K : AS → Prop) : Prop :=
  match o.op with
  | .call c =>
    match c.callee with
    | .value (.func f) => callK P f (c.args.toList.map (ev s.t)) s.h fun v h' => K (AS.put ⟨s.t, h'⟩ o.dst v)
    | .builtin .append => someK (mop P s.t s.h (.call c)) fun r => K (AS.put ⟨s.t, r.2⟩ o.dst r.1)
    | .builtin .copy => someK (mop P s.t s.h (.call c)) fun r => K (AS.put ⟨s.t, r.2⟩ o.dst r.1)
    | _ => someK (qop P s.t s.h (.call c)) fun v => K (s.put o.dst v)
  | .alloc T => someK (mop P s.t s.h (.alloc T)) fun r => K (AS.put ⟨s.t, r.2⟩ o.dst r.1)
  | .box T x => someK (mop P s.t s.h (.box T x)) fun r => K (AS.put ⟨s.t, r.2⟩ o.dst r.1)
  | .store T a x => someK (mop P s.t s.h (.store T a x)) fun r => K (AS.put ⟨s.t, r.2⟩ o.dst r.1)
  | .buildSlice T n ps => someK (mop P s.t s.h (.buildSlice T n ps)) fun r => K (AS.put ⟨s.t, r.2⟩ o.dst r.1)
  | .makeSlice T l c => someK (mop P s.t s.h (.makeSlice T l c)) fun r => K (AS.put ⟨s.t, r.2⟩ o.dst r.1)
  | op => someK (qop P s.t s.h op) fun v => K (s.put o.dst v)

def yieldA (ops : Array Oper) (t : List Value) (j : Nat) : Option (Option Bool) :=
  (((ops[j]?).bind (·.dst)).bind (t[·]?)).bind boolG

/-- An operation behind its guard. -/
def guardK (ops : Array Oper) (o : Oper) (s : AS) (run skip : Prop) : Prop :=
  match o.guard with
  | none => run
  | some (j, want) => someK (yieldA ops s.t j) fun b => (b = some want → run) ∧ (b ≠ some want → skip)

/-- The operations of a region, one behind the other. -/
def opsK (P : Program) (ops : Array Oper) (K : AS → Prop) : List Oper → AS → Prop
  | [], s => K s
  | o :: rest, s => guardK ops o s (opK P o s (opsK P ops K rest)) (opsK P ops K rest (s.put o.dst U))

def Then (K : AS → Prop) (Q : Exit → AS → Prop) : Exit → AS → Prop
  | .normal, s => K s
  | e, s => Q e s

def InBlock (id : Nat) (Q : Exit → AS → Prop) : Exit → AS → Prop
  | .exit i, s => if i = id then Q .normal s else Q (.exit i) s
  | e, s => Q e s

section
variable {P : Program} {Q : Exit → AS → Prop} {s : AS}

theorem SR.put {E : Emb} {a : Act} {w : World} (h : SR E s a w) (d : Option Tmp) {v v' : Value} (hv : VR E s.h.length v v') : SR E (s.put d v) (a.put d v') w := by
  cases d with
  | none => exact h
  | some d => exact ⟨h.mem, by simpa [AS.put, Act.put] using h.tmps.set hv, h.defers⟩

theorem SR.step {E E' : Emb} {a : Act} {w w' : World} {h' : List Blk} (h : SR E s a w) (hr : HR E' h' w') (hl : Link E s.h w E' h' w') : SR E' ⟨s.t, h'⟩ a w' :=
  ⟨hr, h.tmps.mono fun _ _ hv => hv.mono hl.loc hl.room hl.len, h.defers⟩

variable {n0 : Nat}

theorem WA_mono {c : Code} {Q' : Exit → AS → Prop} (h : WA P n0 c Q s) (hq : ∀ e s', Q e s' → Q' e s') : WA P n0 c Q' s :=
  fun E a w hn hs => wp_mono (h E a w hn hs) fun e _ _ ⟨E', s', h1, h2, h3⟩ => ⟨E', s', hq e s' h1, h2, h3⟩

theorem WA_skip (h : Q .normal s) : WA P n0 .skip Q s := fun E _ w hn hs => wp_skip ⟨E, s, h, hs, LinkN.refl E w hn⟩
theorem WA_exit {id : Nat} (h : Q (.exit id) s) : WA P n0 (.exit id) Q s := fun E _ w hn hs => wp_exit ⟨E, s, h, hs, LinkN.refl E w hn⟩
theorem WA_ret (h : Q .ret s) : WA P n0 .ret Q s := fun E _ w hn hs => wp_ret ⟨E, s, h, hs, LinkN.refl E w hn⟩

theorem WA_seq {x y : Code} (h : WA P n0 x (Then (WA P n0 y Q) Q) s) : WA P n0 (.seq x y) Q s := fun E a w hn hs => by
  refine wp_seq (wp_mono (h E a w hn hs) fun e a' w' ⟨E', s', h1, h2, h3⟩ => ?_)
  cases e with
  | normal => exact wp_mono (h1 E' a' w' h3.len h2) fun e a'' w'' ⟨E'', s'', h4, h5, h6⟩ => ⟨E'', s'', h4, h5, h3.trans h6⟩
  | _ => exact ⟨E', s', h1, h2, h3⟩

/-- A sequence, with what holds in between said outright. -/
theorem WA_cut {x y : Code} (K : AS → Prop) (h : WA P n0 x (Then K Q) s) (hk : ∀ s', K s' → WA P n0 y Q s') : WA P n0 (.seq x y) Q s :=
  WA_seq (WA_mono h fun e s' h1 => by cases e <;> first | exact hk _ h1 | exact h1)

theorem WA_cond {c : Operand} {x y : Code} {b : Bool} (hc : ev s.t c = .bool b) (ht : b = true → WA P n0 x Q s) (hf : b = false → WA P n0 y Q s) : WA P n0 (.cond c x y) Q s := fun E a w hn hs => by
  have hv := (hc ▸ ev_sound hs.tmps c).bool
  exact wp_cond_split hv (fun e => ht e E a w hn hs) (fun e => hf e E a w hn hs)

theorem WA_block {id : Nat} {c : Code} (h : WA P n0 c (InBlock id Q) s) : WA P n0 (.block id c) Q s := fun E a w hn hs => by
  refine wp_block (wp_mono (h E a w hn hs) fun e a' w' ⟨E', s', h1, h2, h3⟩ => ?_)
  cases e with
  | exit i =>
    simp only [InBlock] at h1
    simp only [Exit.inBlock]
    split at h1
    · rename_i hi; rw [if_pos hi]; exact ⟨E', s', h1, h2, h3⟩
    · rename_i hi; rw [if_neg hi]; exact ⟨E', s', h1, h2, h3⟩
  | _ => exact ⟨E', s', h1, h2, h3⟩

/-- What is known of a state may be given up, memory cut back, and the blocks behind the first n numbered anew. -/
structure Drop (n : Nat) (s s' : AS) : Prop where
  sr : ∀ (E : Emb) (a : Act) (w : World), SR E s a w → ∃ E', SR E' s' a w ∧ (∀ b, b < n → E'.loc b = E.loc b ∧ E'.room b = E.room b ∧ E'.base b = E.base b) ∧
    ∀ (b : Nat) (k : Blk), s'.h[b]? = some k → k.rw = true → ∃ b0 k0, s.h[b0]? = some k0 ∧ k0.rw = true ∧ E.loc b0 = E'.loc b
  len : n ≤ s'.h.length

theorem Drop.link {n : Nat} {s s' : AS} {E : Emb} {w : World} {E' : Emb} (hn : n ≤ s'.h.length) (h1 : ∀ b, b < n → E'.loc b = E.loc b ∧ E'.room b = E.room b ∧ E'.base b = E.base b)
    (h2 : ∀ (b : Nat) (k : Blk), s'.h[b]? = some k → k.rw = true → ∃ b0 k0, s.h[b0]? = some k0 ∧ k0.rw = true ∧ E.loc b0 = E'.loc b) : LinkN n E s.h w E' s'.h w :=
  ⟨hn, fun b hb => (h1 b hb).1, fun b hb => (h1 b hb).2, Nat.le_refl _, rfl, rfl, rfl, fun _ _ _ => rfl, fun b k hb hk => .inr (h2 b k hb hk)⟩

theorem Drop.refl (s : AS) {n : Nat} (hn : n ≤ s.h.length) : Drop n s s := ⟨fun E _ _ h => ⟨E, h, fun _ _ => ⟨rfl, rfl, rfl⟩, fun b k hb hk => ⟨b, k, hb, hk, rfl⟩⟩, hn⟩

/-- What is known is given up without numbering anew. -/
theorem Drop.plain {s s' : AS} {n : Nat} (hsr : ∀ (E : Emb) (a : Act) (w : World), SR E s a w → SR E s' a w) (hn : n ≤ s'.h.length)
    (ho : ∀ (b : Nat) (k : Blk), s'.h[b]? = some k → k.rw = true → ∃ k', s.h[b]? = some k' ∧ k'.rw = true) : Drop n s s' :=
  ⟨fun E a w h => ⟨E, hsr E a w h, fun _ _ => ⟨rfl, rfl, rfl⟩, fun b k hb hk => by
    obtain ⟨k', h1, h2⟩ := ho b k hb hk
    exact ⟨b, k', h1, h2, rfl⟩⟩, hn⟩

theorem WA_pre {c : Code} {s' : AS} (hd : Drop n0 s s') (h : WA P n0 c Q s') : WA P n0 c Q s := fun E a w hn hs => by
  obtain ⟨E', h1, h2, h3⟩ := hd.sr _ _ _ hs
  exact wp_mono (h E' a w hd.len h1) fun e a' w' ⟨E'', s'', h4, h5, h6⟩ => ⟨E'', s'', h4, h5, (Drop.link (s := s) hd.len h2 h3).trans h6⟩

theorem WA_post {c : Code} {Q' : Exit → AS → Prop} (h : WA P n0 c Q' s) (hd : ∀ e s', Q' e s' → ∃ s'', Drop n0 s' s'' ∧ Q e s'') : WA P n0 c Q s := fun E a w hn hs => by
  refine wp_mono (h E a w hn hs) fun e a' w' ⟨E', s', h1, h2, h3⟩ => ?_
  obtain ⟨s'', hd1, hq⟩ := hd e s' h1
  obtain ⟨E'', h4, h5, h6⟩ := hd1.sr _ _ _ h2
  exact ⟨E'', s'', hq, h4, h3.trans (Drop.link (s := s') hd1.len h5 h6)⟩

theorem WA_loop {c : Code} (I : Nat → AS → Prop) {n : Nat} (h0 : I n s)
    (hstep : ∀ n s, I n s → WA P n0 c (Then (fun s' => ∃ m s'', m < n ∧ I m s'' ∧ Drop n0 s' s'') Q) s) : WA P n0 (.loop c) Q s := fun E a w hn hs => by
  have key : ∀ n s, I n s → ∀ E' a' w', SR E' s a' w' → ∀ E0 h0 w0, LinkN n0 E0 h0 w0 E' s.h w' → Code.rounds P c (Post n0 Q E0 h0 w0) (n + 1) a' w' := by
    intro n
    induction n using Nat.strongRecOn with
    | _ n ih =>
      intro s hI E' a' w' hs' E0 h0 w0 hl
      rw [rounds_succ]
      refine wp_mono (hstep n s hI E' a' w' hl.len hs') fun e a2 w2 ⟨E2, s2, h1, h2, h3⟩ => ?_
      cases e with
      | normal =>
        obtain ⟨m, s3, hm, hI3, hd⟩ := h1
        obtain ⟨E3, h4, h5, h6⟩ := hd.sr _ _ _ h2
        have hr := ih m hm s3 hI3 E3 a2 w2 h4 E0 h0 w0 (hl.trans (h3.trans (Drop.link (s := s2) hd.len h5 h6)))
        exact rounds_mono (by omega) hr
      | _ => exact ⟨E2, s2, h1, h2, hl.trans h3⟩
  exact wp_loop_rounds (n + 1) (key n s h0 E a w hs E s.h w (LinkN.refl E w hn))
where
  rounds_mono {P : Program} {c : Code} {Q : Exit → Act → World → Prop} : ∀ {n m : Nat} {a : Act} {w : World}, n ≤ m → Code.rounds P c Q n a w → Code.rounds P c Q m a w
    | 0, _, _, _, _, h => by cases h
    | n + 1, 0, _, _, hle, _ => by omega
    | n + 1, m + 1, a, w, hle, h => by
      rw [rounds_succ] at h ⊢
      refine wp_mono h fun e a' w' hq => ?_
      cases e with
      | normal => exact rounds_mono (by omega) hq
      | _ => exact hq

/-- A loop whose state after k rounds is told by a function. -/
theorem WA_for {c : Code} (S : Nat → AS) (n : Nat) (hs : s = S 0)
    (step : ∀ k, k < n → WA P n0 c (Then (fun s' => Drop n0 s' (S (k + 1))) Q) (S k))
    (done : WA P n0 c (Then (fun _ => False) Q) (S n)) : WA P n0 (.loop c) Q s := by
  refine WA_loop (fun m s => m ≤ n ∧ s = S (n - m)) (n := n) ⟨Nat.le_refl _, by simpa using hs⟩ fun m s ⟨hm, he⟩ => ?_
  subst he
  by_cases h0 : m = 0
  · subst h0
    exact WA_mono done fun e s' h => by cases e <;> first | exact h.elim | exact h
  · refine WA_mono (step (n - m) (by omega)) fun e s' h => ?_
    cases e with
    | normal =>
      refine ⟨m - 1, S (n - (m - 1)), by omega, ⟨by omega, rfl⟩, ?_⟩
      have : n - (m - 1) = n - m + 1 := by omega
      rw [this]; exact h
    | _ => exact h

theorem wanted_guard {ops : Array Oper} {o : Oper} {E : Emb} {a : Act} {w : World} (hs : SR E s a w) {run skip : Prop} (h : guardK ops o s run skip) :
    (Region.wanted o (yielded ops a.tmps) = true ∧ run) ∨ (Region.wanted o (yielded ops a.tmps) = false ∧ skip) := by
  unfold guardK at h
  unfold Region.wanted
  split at h
  · rename_i hg; rw [hg]; exact .inl ⟨rfl, h⟩
  · rename_i j want hg
    rw [hg]
    simp only
    cases hy : yieldA ops s.t j with
    | none => rw [hy] at h; exact h.elim
    | some ob =>
      rw [hy] at h
      obtain ⟨h1, h2⟩ := (show (ob = some want → run) ∧ (ob ≠ some want → skip) from h)
      have hc : yielded ops a.tmps j = ob := by
        unfold yieldA at hy
        obtain ⟨v, hv, hb⟩ := bind_some' hy
        obtain ⟨d, hd, hv⟩ := bind_some' hv
        obtain ⟨y, hy', hr⟩ := hs.tmps.get hv
        simp only [Array.getElem?_toList] at hy'
        cases ob with
        | some b =>
          rw [boolG_some hb] at hr
          rw [hr.bool] at hy'
          unfold yielded
          simp [hd, hy']
        | none =>
          rw [boolG_none hb] at hr
          obtain ⟨us, rfl, _⟩ := hr
          unfold yielded
          simp [hd, hy']
      rw [hc]
      by_cases hbw : ob = some want
      · exact .inl ⟨by simp [hbw], h1 hbw⟩
      · exact .inr ⟨by simp [hbw], h2 hbw⟩

theorem callK_sound {f : FuncId} {c : Call} {o : Oper} (ho : o.op = .call c) (hf : c.callee = .value (.func f)) {E : Emb} {a : Act} {w : World} (hs : SR E s a w) {K : Value → List Blk → Prop}
    (h : callK P f (c.args.toList.map (ev s.t)) s.h K) {next : Act → World → Prop} {Q' : Exit → Act → World → Prop}
    (hn : ∀ E' v v' h' w', K v h' → VR E' h'.length v v' → HR E' h' w' → Link E s.h w E' h' w' → next (a.put o.dst v') w') : o.wp P a w next Q' := by
  obtain ⟨v, h', ⟨hcall, hac⟩, hk⟩ := h
  obtain ⟨dst, op, ty, pos, after, guard⟩ := o
  obtain ⟨callee, args, types⟩ := c
  simp only at ho hf hac
  subst ho hf
  have hrun : (execOp a.eval { dst, op := .call { callee := .value (.func f), args, argTypes := types }, type := ty, pos, after, guard }).run P w = .ok (.enter f (args.map a.eval)) w := by
    simp [execOp, resolve, Act.eval, Deferred.ofValue, invoke]
    exact hcall _ _
  unfold Oper.wp
  rw [hrun, Oper.upon_enter]
  refine (hac E w (args.map a.eval) hs.mem ?_).mono ?_
  · refine P2.of_get (by simp) fun i x hx => ?_
    rw [List.getElem?_map] at hx
    cases hi : args.toList[i]? with
    | none => rw [hi] at hx; cases hx
    | some y =>
      rw [hi] at hx
      cases hx
      exact ⟨a.eval y, by rw [Array.toList_map, List.getElem?_map, hi]; rfl, ev_sound hs.tmps y⟩
  · rintro e w' ⟨E', v', rfl, h1, h2, h3⟩
    exact hn E' v v' h' w' hk h1 h2 h3

theorem opK_sound {o : Oper} {E : Emb} {a : Act} {w : World} (hs : SR E s a w) {K : AS → Prop} (h : opK P o s K) {next : Act → World → Prop} {Q' : Exit → Act → World → Prop}
    (hn : ∀ E' s' a' w', K s' → SR E' s' a' w' → Link E s.h w E' s'.h w' → next a' w') : o.wp P a w next Q' := by
  have hq : ∀ op, o.op = op → someK (qop P s.t s.h op) (fun v => K (s.put o.dst v)) → o.wp P a w next Q' := fun op ho h => by
    cases hq : qop P s.t s.h op with
    | none => rw [hq] at h; exact h.elim
    | some v =>
      rw [hq] at h
      obtain ⟨v', hv, hrun⟩ := qop_sound (o := o) hs.mem hs.tmps (ho ▸ hq)
      unfold Oper.wp
      rw [hrun w (fun _ _ _ _ _ => rfl), Oper.upon_value]
      exact hn E _ _ w h (hs.put _ hv) (by cases hd : o.dst <;> simp [AS.put] <;> exact Link.refl ..)
  have hm : ∀ op, o.op = op → someK (mop P s.t s.h op) (fun r => K (AS.put ⟨s.t, r.2⟩ o.dst r.1)) → o.wp P a w next Q' := fun op ho h => by
    cases hq : mop P s.t s.h op with
    | none => rw [hq] at h; exact h.elim
    | some r =>
      obtain ⟨v, h'⟩ := r
      rw [hq] at h
      obtain ⟨v', w', hrun, E', hv, hr, hl⟩ := mop_sound (o := o) hs.mem hs.tmps (ho ▸ hq)
      unfold Oper.wp
      have hgo := hn E' _ (a.put o.dst v') w' h ((hs.step hr hl).put _ hv) (by cases hd : o.dst <;> simp [AS.put] <;> exact hl)
      rcases hrun with hrun | ⟨hrun, rfl⟩
      · rw [hrun, Oper.upon_value]; exact hgo
      · rw [hrun, Oper.upon_skip]; exact hgo
  unfold opK at h
  split at h
  · rename_i c ho
    split at h
    · rename_i f hf
      exact callK_sound ho hf hs h fun E' v v' h' w' hk hv hr hl => hn E' _ _ w' hk ((hs.step hr hl).put _ hv) (by cases hd : o.dst <;> simp [AS.put] <;> exact hl)
    · exact hm _ ho h
    · exact hm _ ho h
    · exact hq _ ho h
  · rename_i ho; exact hm _ ho h
  · rename_i ho; exact hm _ ho h
  · rename_i ho; exact hm _ ho h
  · rename_i ho; exact hm _ ho h
  · rename_i ho; exact hm _ ho h
  · exact hq _ rfl h

theorem opsK_sound {ops : Array Oper} {E0 : Emb} {h0 : List Blk} {w0 : World} : ∀ (l : List Oper) (k : Nat), (∀ j, l[j]? = ops[k + j]?) → ∀ (s : AS) (E : Emb) (a : Act) (w : World), opsK P ops (Q .normal) l s → SR E s a w →
    LinkN n0 E0 h0 w0 E s.h w → wpOps P ops (Post n0 Q E0 h0 w0) (List.range' k l.length) a w
  | [], k, hl, s, E, a, w, h, hs, hlink => ⟨E, s, h, hs, hlink⟩
  | o :: rest, k, hl, s, E, a, w, h, hs, hlink => by
    have h0 : ops[k]? = some o := by simpa using (hl 0).symm
    have hrest : ∀ j, rest[j]? = ops[k + 1 + j]? := fun j => by
      have := hl (j + 1)
      rw [List.getElem?_cons_succ] at this
      rw [this]; congr 1; omega
    simp only [List.length_cons, List.range'_succ, wpOps, h0]
    rcases wanted_guard hs h with ⟨hw, h⟩ | ⟨hw, h⟩
    · rw [if_pos hw]
      exact .inl (opK_sound hs h fun E' s' a' w' hk hs' hl' => opsK_sound rest (k + 1) hrest s' E' a' w' hk hs' (hlink.trans (hl'.toN hlink.len)))
    · rw [if_neg (by simp [hw])]
      refine opsK_sound rest (k + 1) hrest _ E _ w h (hs.put _ VR.undef) ?_
      cases hd : o.dst <;> simp [AS.put] <;> exact hlink

theorem WA_region {id : Nat} {ops : Array Oper} (h : opsK P ops (Q .normal) ops.toList s) : WA P n0 (.region id ops false) Q s := fun E a w hn hs => by
  refine wp_region ?_
  have := opsK_sound (Q := Q) ops.toList 0 (fun j => by simp) s E a w h hs (LinkN.refl E w hn)
  simpa [List.range_eq_range'] using this

/-- Memory of which nothing is ours to write. -/
def ro (h : List Blk) : List Blk := h.map fun k => ⟨k.cells, false⟩

theorem ro_get {h : List Blk} {b : Nat} {k : Blk} (hb : (ro h)[b]? = some k) : ∃ k', h[b]? = some k' ∧ k.cells = k'.cells ∧ k.rw = false := by
  unfold ro at hb
  rw [List.getElem?_map] at hb
  obtain ⟨k', h1, rfl⟩ := map_some' hb
  exact ⟨k', h1, rfl, rfl⟩

theorem HR.same {E : Emb} {h : List Blk} {w w' : World} (hr : HR E h w) (hs : Same w w') (hz : w.heap.size ≤ w'.heap.size) : HR E h w' where
  lt b k hb := Nat.lt_of_lt_of_le (hr.lt b k hb) hz
  cell b k i x hb hx := by
    obtain ⟨y, hy, hc⟩ := hr.cell b k i x hb hx
    exact ⟨y, hs.cell hy, hc⟩
  room := hr.room
  own b k hb hk := by
    obtain ⟨h0, cs, e, h1, h2⟩ := hr.own b k hb hk
    exact ⟨h0, cs, e, by rw [hs _ (hr.lt b k hb)]; exact h1, h2⟩
  sep := hr.sep
  door := hr.door.keep hz fun i hi => hs i (Nat.lt_of_lt_of_le hi hr.door.lt)
  away := hr.away

theorem HR.ro {E : Emb} {h : List Blk} {w : World} (hr : HR E h w) : HR E (ro h) w where
  lt b k hb := by obtain ⟨k', h1, _, _⟩ := ro_get hb; exact hr.lt b k' h1
  cell b k i x hb hx := by
    obtain ⟨k', h1, h2, _⟩ := ro_get hb
    rw [h2] at hx
    obtain ⟨y, hy, hc⟩ := hr.cell b k' i x h1 hx
    exact ⟨y, hy, by simpa [Abs.ro] using hc⟩
  room b k hb := by obtain ⟨k', h1, h2, _⟩ := ro_get hb; rw [h2]; exact hr.room b k' h1
  own b k hb hk := by obtain ⟨k', _, _, h3⟩ := ro_get hb; rw [h3] at hk; cases hk
  sep b k hb hk := by obtain ⟨k', _, _, h3⟩ := ro_get hb; rw [h3] at hk; cases hk
  door := hr.door
  away b k hb hk := by obtain ⟨k', _, _, h3⟩ := ro_get hb; rw [h3] at hk; cases hk

/-- One operation of a region that draws its order: it looks only, or is a call that writes nothing of ours. -/
def opQ (P : Program) (o : Oper) (s : AS) (K : AS → Prop) : Prop :=
  match o.op with
  | .call c =>
    match c.callee with
    | .value (.func f) => ∃ v h', AC P f (c.args.toList.map (ev s.t)) (ro s.h) v h' ∧ plainV v = true ∧ K (s.put o.dst v)
    | _ => someK (qop P s.t s.h (.call c)) fun v => K (s.put o.dst v)
  | op => someK (qop P s.t s.h op) fun v => K (s.put o.dst v)

def opsQ (P : Program) (ops : Array Oper) (K : AS → Prop) : List Oper → AS → Prop
  | [], s => K s
  | o :: rest, s => guardK ops o s (opQ P o s (opsQ P ops K rest)) (opsQ P ops K rest (s.put o.dst U))

theorem below_same {w w' : World} (h : RowKit.Below w.heap.size w w') : Same w w' := fun i hi => h.block i hi

theorem opQ_sound {o : Oper} {E : Emb} {a : Act} {w : World} (hs : SR E s a w) {K : AS → Prop} (h : opQ P o s K) {next : Act → Prop}
    (hn : ∀ s' a', K s' → SR E s' a' w → s'.h = s.h → next a') : o.quiet P a (fun w' => RowKit.Below w.heap.size w w') next := by
  have hq : ∀ op, o.op = op → someK (qop P s.t s.h op) (fun v => K (s.put o.dst v)) → o.quiet P a (fun w' => RowKit.Below w.heap.size w w') next := fun op ho h => by
    cases hq : qop P s.t s.h op with
    | none => rw [hq] at h; exact h.elim
    | some v =>
      rw [hq] at h
      obtain ⟨v', hv, hrun⟩ := qop_sound (o := o) hs.mem hs.tmps (ho ▸ hq)
      refine ⟨v', fun w' hw' => ?_, hn _ _ h (hs.put _ hv) (by cases hd : o.dst <;> simp [AS.put])⟩
      unfold Oper.quietAt
      rw [hrun w' ((below_same hw').sOn hs.mem)]
      exact ⟨rfl, rfl⟩
  unfold opQ at h
  split at h
  · rename_i c ho
    split at h
    · rename_i f hf
      obtain ⟨v, h', ⟨hcall, hac⟩, hp, hk⟩ := h
      refine ⟨v, fun w' hw' => ?_, hn _ _ hk (hs.put _ (VR.of_plain hp)) (by cases hd : o.dst <;> simp [AS.put])⟩
      obtain ⟨dst, op, ty, pos, after, guard⟩ := o
      obtain ⟨callee, args, types⟩ := c
      simp only at ho hf hac
      subst ho hf
      have hrun : (execOp a.eval { dst, op := .call { callee := .value (.func f), args, argTypes := types }, type := ty, pos, after, guard }).run P w' = .ok (.enter f (args.map a.eval)) w' := by
        simp [execOp, resolve, Act.eval, Deferred.ofValue, invoke]
        exact hcall _ _
      unfold Oper.quietAt
      rw [hrun]
      refine ⟨rfl, ((hac E w' (args.map a.eval) (hs.mem.same (below_same hw') hw'.size).ro ?_)).mono ?_⟩
      · refine P2.of_get (by simp) fun i x hx => ?_
        rw [List.getElem?_map] at hx
        cases hi : args.toList[i]? with
        | none => rw [hi] at hx; cases hx
        | some y =>
          rw [hi] at hx
          cases hx
          exact ⟨a.eval y, by rw [Array.toList_map, List.getElem?_map, hi]; rfl, by simpa [ro] using ev_sound hs.tmps y⟩
      · rintro e w'' ⟨E', v', rfl, h1, h2, h3⟩
        refine ⟨by rw [h1.plain hp], hw'.trans ⟨h3.os, h3.tape, h3.output, h3.size, fun k hk => h3.frame k (Nat.lt_of_lt_of_le hk hw'.size) fun b kb hb hrw => ?_⟩⟩
        obtain ⟨k', _, _, hf⟩ := ro_get hb
        rw [hf] at hrw; cases hrw
    · exact hq _ ho h
  · exact hq _ rfl h

theorem opsQ_sound {ops : Array Oper} {E : Emb} {w : World} {h0 : List Blk} {K : AS → Prop} : ∀ (l : List Oper) (s : AS) (a : Act), s.h = h0 → opsQ P ops K l s → SR E s a w →
    wpQuiet P ops (fun w' => RowKit.Below w.heap.size w w') (fun a' => ∃ s', K s' ∧ SR E s' a' w ∧ s'.h = h0) l a
  | [], s, a, hh, h, hs => ⟨s, h, hs, hh⟩
  | o :: rest, s, a, hh, h, hs => by
    unfold wpQuiet
    rcases wanted_guard hs h with ⟨hw, h⟩ | ⟨hw, h⟩
    · rw [if_pos hw]
      exact opQ_sound hs h fun s' a' hk hs' he => opsQ_sound rest s' a' (he.trans hh) hk hs'
    · rw [if_neg (by simp [hw])]
      exact opsQ_sound rest _ _ (by cases hd : o.dst <;> simp [AS.put] <;> exact hh) h (hs.put _ VR.undef)

theorem wpQuiet_mono {ops : Array Oper} {C : World → Prop} {Q Q' : Act → Prop} (hq : ∀ a, Q a → Q' a) : ∀ (l : List Oper) (a : Act), wpQuiet P ops C Q l a → wpQuiet P ops C Q' l a
  | [], a, h => hq a h
  | o :: rest, a, h => by
    unfold wpQuiet at h ⊢
    split
    · rename_i hw; rw [if_pos hw] at h; exact Oper.quiet_mono (fun a' => wpQuiet_mono hq rest a') h
    · rename_i hw; rw [if_neg hw] at h; exact wpQuiet_mono hq rest _ h

/-- A region that draws its order, in which all only look. -/
theorem WA_draw {id : Nat} {ops : Array Oper} (hm : P.follows .mixedOrders = true) (hB : Region.lexB .any ops = true) (h : opsQ P ops (Q .normal) ops.toList s) : WA P n0 (.region id ops true) Q s := fun E a w hn hs => by
  refine wp_region_quiet (C := fun w' => RowKit.Below w.heap.size w w') hm hB ⟨rfl, rfl, rfl, Nat.le_refl _, fun _ _ => rfl⟩ ?_
  refine wpQuiet_mono (fun a' ⟨s', hk, hs', he⟩ w' hw' => ?_) _ _ (opsQ_sound (E := E) (h0 := s.h) ops.toList s a rfl h hs)
  refine ⟨E, s', hk, ⟨hs'.mem.same (below_same hw') hw'.size, hs'.tmps, hs'.defers⟩, ?_⟩
  rw [he]
  exact ⟨hn, fun _ _ => rfl, fun _ _ => ⟨rfl, rfl⟩, hw'.size, hw'.os, hw'.tape, hw'.output, fun i hi _ => hw'.block i hi, fun b k hb hk => .inr ⟨b, k, hb, hk, rfl⟩⟩

/-! ### Entering a function, and leaving it -/

def isTup : Value → Bool | .tuple _ => true | _ => false

def ares1 (P : Program) (s : AS) : ResultVar → Option Value
  | .tmp t => some ((s.t[t]?).getD J)
  | .cell a T => (ptrA ((s.t[a]?).getD J)).bind fun p => loadA P s.h T p

def aresults (P : Program) (rs : List ResultVar) (s : AS) : Option Value :=
  match rs with
  | [r] => ares1 P s r
  | rs => (mapO (ares1 P s) rs).bind fun vs => if vs.all (fun v => !isTup v) = true then some (.tuple vs.toArray) else none

theorem getD_sound {E : Emb} {n : Nat} {t : List Value} {a : Act} (ht : P2 (VR E n) t a.tmps.toList) (i : Nat) : VR E n ((t[i]?).getD J) (a.tmps.getD i undef) := ev_sound (t := t) (a := a) ht (.tmp i)

/-- One result, as the model reads it. -/
def crun (a : Act) : ResultVar → Sem Value
  | .tmp t => pure (a.tmps.getD t undef)
  | .cell x T => do loadVar T (← asAddr (a.tmps.getD x undef))

theorem results_crun (fn : Func) (a : Act) : results fn a.tmps = (do let vs ← fn.results.mapM (crun a); pure (if h : vs.size = 1 then vs[0] else .tuple vs)) := by
  unfold results
  congr 1

theorem ares1_sound {E : Emb} {a : Act} {w : World} (hs : SR E s a w) {r : ResultVar} {v : Value} (h : ares1 P s r = some v) :
    ∃ v', VR E s.h.length v v' ∧ (crun a r).run P w = .ok v' w := by
  cases r with
  | tmp t => cases h; exact ⟨_, getD_sound hs.tmps t, rfl⟩
  | cell x T =>
    obtain ⟨p, hp, h⟩ := bind_some' h
    have hx := getD_sound hs.tmps x
    rw [ptrA_spec hp] at hx
    obtain ⟨_, hp'⟩ := hx.ptr
    obtain ⟨v', hv, hrun⟩ := loadA_sound hs.mem h
    refine ⟨v', hv, ?_⟩
    simp only [crun, hp', Sem.run_bind, asAddr, Sem.run_pure, Result.andThen_ok]
    exact hrun w (fun _ _ _ _ _ => rfl)

theorem mapO_ares {E : Emb} {a : Act} {w : World} (hs : SR E s a w) : ∀ (rs : List ResultVar) (vs : List Value), mapO (ares1 P s) rs = some vs →
    ∃ us, P2 (VR E s.h.length) vs us ∧ (rs.mapM (crun a)).run P w = .ok us w
  | [], vs, h => by cases h; exact ⟨[], P2.nil, rfl⟩
  | r :: rs, vs, h => by
    obtain ⟨v, hv, h⟩ := bind_some' h
    obtain ⟨vs', hvs, rfl⟩ := map_some' h
    obtain ⟨v', h1, h2⟩ := ares1_sound hs hv
    obtain ⟨us, h3, h4⟩ := mapO_ares hs rs vs' hvs
    refine ⟨v' :: us, P2.cons h1 h3, ?_⟩
    rw [List.mapM_cons]
    simp only [Sem.run_bind, h2, Result.andThen_ok, h4, Sem.run_pure]

theorem VR.to_VR1 {E : Emb} {n : Nat} {u v : Value} (h : VR E n u v) (ht : isTup u = false) : VR1 E n u v := by
  cases u <;> first | exact h | cases ht

theorem aresults_sound {E : Emb} {a : Act} {w : World} (hs : SR E s a w) {fn : Func} {v : Value} (h : aresults P fn.results.toList s = some v) :
    ∃ v', VR E s.h.length v v' ∧ (results fn a.tmps).run P w = .ok v' w := by
  have hrun : ∀ us : List Value, (fn.results.toList.mapM (crun a)).run P w = .ok us w →
      (results fn a.tmps).run P w = .ok (if h : us.toArray.size = 1 then us.toArray[0] else .tuple us.toArray) w := fun us hu => by
    rw [results_crun]
    have : fn.results.mapM (crun a) = List.toArray <$> fn.results.toList.mapM (crun a) := by
      rw [← List.mapM_toArray]
    rw [this]
    simp only [Sem.run_bind, Sem.run_map, hu, Result.andThen_ok, Sem.run_pure]
  unfold aresults at h
  split at h
  · rename_i r hrs
    obtain ⟨v', h1, h2⟩ := ares1_sound hs h
    refine ⟨v', h1, ?_⟩
    rw [hrun [v'] (by rw [hrs, List.mapM_cons]; simp only [Sem.run_bind, h2, Result.andThen_ok, List.mapM_nil, Sem.run_pure])]
    rfl
  · rename_i hno
    obtain ⟨vs, hvs, h⟩ := bind_some' h
    obtain ⟨hall, rfl⟩ := ite_some h
    obtain ⟨us, h1, h2⟩ := mapO_ares hs _ vs hvs
    have hlen : us.length ≠ 1 := fun he => by
      have h3 := h1.1
      have h4 : fn.results.toList.length = vs.length := (mapO_length _ _ hvs).symm
      match hr : fn.results.toList with
      | [] => rw [hr] at h4; simp at h4; omega
      | [r] => exact hno r hr
      | _ :: _ :: _ => rw [hr] at h4; simp at h4; omega
    refine ⟨.tuple us.toArray, ⟨_, rfl, ⟨by simpa using h1.1, fun i x y hx hy => ?_⟩⟩, ?_⟩
    · have hx' : vs[i]? = some x := by simpa using hx
      have := h1.2 i x y hx' (by simpa using hy)
      exact this.to_VR1 (by have := List.all_eq_true.1 hall x (List.mem_of_getElem? hx'); simpa using this)
    · rw [hrun us h2, dif_neg (by simpa using hlen)]
where
  mapO_length {α β : Type} {f : α → Option β} : ∀ (l : List α) (r : List β), mapO f l = some r → r.length = l.length
    | [], r, h => by cases h; rfl
    | x :: l, r, h => by
      obtain ⟨y, hy, h⟩ := bind_some' h
      obtain ⟨r', hr, rfl⟩ := map_some' h
      simp [mapO_length l r' hr]

/-- What is left of a function's memory when it returns. -/
structure Final (h0 : List Blk) (s : AS) (v : Value) (h' : List Blk) : Prop where
  len : h0.length ≤ h'.length
  cut : ∃ G, s.h = h' ++ G ∧ (G = [] ∨ (wfV h'.length v ∧ ∀ (b : Nat) (k : Blk), h'[b]? = some k → h0[b]? = some k ∨ ∀ c ∈ k.cells, wfC h'.length c))

def Ret (P : Program) (rs : List ResultVar) (h0 : List Blk) (v : Value) (h' : List Blk) : Exit → AS → Prop :=
  fun e s => (e = .normal ∨ e = .ret) ∧ aresults P rs s = some v ∧ Final h0 s v h'

theorem HR.cut {E : Emb} {h G : List Blk} {w : World} (hr : HR E (h ++ G) w) (hw : ∀ (b : Nat) (k : Blk), h[b]? = some k → ∀ c ∈ k.cells, wfC h.length c) : HR E h w := by
  have up : ∀ {b : Nat} {k : Blk}, h[b]? = some k → (h ++ G)[b]? = some k := fun {b k} hb => by
    rw [List.getElem?_append_left (List.getElem?_eq_some_iff.1 hb).1]; exact hb
  refine ⟨fun b k hb => hr.lt b k (up hb), fun b k i x hb hx => ?_, fun b k hb => hr.room b k (up hb), fun b k hb hk => hr.own b k (up hb) hk, fun b k hb hk b' k' hb' hne hlive => hr.sep b k (up hb) hk b' k' (up hb') hne hlive, hr.door, fun b k hb hk => hr.away b k (up hb) hk⟩
  obtain ⟨y, hy, hc⟩ := hr.cell b k i x (up hb) hx
  exact ⟨y, hy, hc.down (hw b k hb x (List.mem_of_getElem? hx))⟩

theorem wfC.mono {n m : Nat} {c : Value} (h : wfC n c) (hn : n ≤ m) : wfC m c := by
  unfold wfC at *
  split at h <;> first | omega | trivial

theorem AC_intro {f : FuncId} {fn : Func} {c : Code} {n : Nat} {rs : Array ResultVar} {args : List Value} {h h' : List Blk} {v : Value} (hcall : CallOk P f) (hf : P.funcs[f]? = some fn) (hb : fn.body = some c)
    (hn : fn.ntmps = n) (hr : fn.results = rs) (hw : WA P h.length c (Ret P rs.toList h v h') ⟨args ++ List.replicate (n - args.length) J, h⟩) : AC P f args h v h' := by
  refine ⟨hcall, fun E w args' hr' hargs => ?_⟩
  refine calls_of_wp hf hb ?_
  have hs : SR E ⟨args ++ List.replicate (n - args.length) J, h⟩ { tmps := args' ++ Array.replicate (fn.ntmps - args'.size) undef, defers := [] } w := by
    refine ⟨hr', ?_, rfl⟩
    simp only [Array.toList_append, Array.toList_replicate]
    have hl : args.length = args'.size := by have := hargs.1; simpa using this
    rw [hn, hl]
    exact hargs.append ⟨by simp, fun i x y hx hy => by
      rw [List.getElem?_replicate] at hx
      split at hx
      · cases hx; exact VR.junk
      · cases hx⟩
  refine wp_mono (hw E _ w (Nat.le_refl _) hs) fun e a' w' ⟨E', s', ⟨he, hres, hfin⟩, hs', hl⟩ => ?_
  replace hl := hl.full
  obtain ⟨v', hv, hrun⟩ := aresults_sound (fn := fn) hs' (by rw [hr]; exact hres)
  obtain ⟨G, hG, hcut⟩ := hfin.cut
  have hend : ∃ v', (results fn a'.tmps).run P w' = .ok v' w' ∧ ∃ E' v'', Ending.returned v' = .returned v'' ∧ VR E' h'.length v v'' ∧ HR E' h' w' ∧ Link E h w E' h' w' := by
    refine ⟨v', hrun, E', v', rfl, ?_⟩
    rcases hcut with rfl | ⟨hwv, hwh⟩
    · rw [List.append_nil] at hG
      rw [← hG]; exact ⟨hv, hs'.mem, hl⟩
    · have hmem := hs'.mem
      rw [hG] at hmem hl
      refine ⟨hv.down hwv, hmem.cut fun b k hb c hc => ?_, hl.cut hfin.len fun b k hb hk => ⟨k, by rw [List.getElem?_append_left (List.getElem?_eq_some_iff.1 hb).1]; exact hb, hk⟩⟩
      rcases hwh b k hb with h1 | h1
      · obtain ⟨i, hi⟩ := List.getElem?_of_mem hc
        obtain ⟨y, _, hcr⟩ := hr'.cell b k i c h1 hi
        exact hcr.wf.mono hfin.len
      · exact h1 c hc
  rcases he with rfl | rfl
  · exact ⟨hs'.defers, hend⟩
  · exact ⟨hs'.defers, hend⟩

end
end Go.Abs
