/- The abstract machine, part R: regions that draw their order, cut into parts that only look and single operations. Generic: no program in sight. -/
import Derived.Test.YtalbdgkbinndlaaDoorAbsJ
namespace Go.Abs
set_option linter.unusedSimpArgs false
set_option linter.unusedVariables false
set_option maxRecDepth 20000
set_option maxHeartbeats 1000000

section order
variable {P : Program} {ops : Array Oper} {C : World → Prop}

theorem getD_both {listed : Array Bool} {i : Nat} (h : listed.getD i true = false) : listed.getD i false = false := by
  rcases Nat.lt_or_ge i listed.size with h' | h'
  · simp [h'] at h ⊢; exact h
  · simp [Array.getElem?_eq_none h'] at h
theorem getD_replicate_false (m j : Nat) : (Array.replicate m false).getD j false = false := by
  rcases Nat.lt_or_ge j m with h | h
  · simp [h]
  · simp [h]

/-- Operation j waits, through others or not, for operation i. -/
def waitsT (ops : Array Oper) : Nat → Nat → Nat → Bool
  | 0, _, _ => false
  | f + 1, j, i => match ops[j]? with
    | some oj => oj.after.any fun e => Region.binds .any e && (e.on == i || waitsT ops f e.on i)
    | none => false

def Closed (ops : Array Oper) (listed : Array Bool) : Prop := ∀ (j : Nat) (oj : Oper), ops[j]? = some oj → listed.getD j false = true → ∀ e ∈ oj.after, Region.binds .any e = true → listed.getD e.on false = true

theorem Closed.waits {listed : Array Bool} (hc : Closed ops listed) : ∀ (f j i : Nat), listed.getD j false = true → waitsT ops f j i = true → listed.getD i false = true
  | 0, _, _, _, h => by cases h
  | f + 1, j, i, hl, h => by
    unfold waitsT at h
    split at h
    · rename_i oj hj
      obtain ⟨e, he, hb⟩ := Array.any_eq_true'.1 h
      simp only [Bool.and_eq_true, Bool.or_eq_true, beq_iff_eq] at hb
      have h1 := hc j oj hj hl e he hb.1
      rcases hb.2 with rfl | h2
      · exact h1
      · exact hc.waits f _ i h1 h2
    · cases h

theorem ready_waits {listed : Array Bool} (hc : Closed ops listed) {f j i : Nat} (hj : j ∈ Region.ready .any ops listed) (h : waitsT ops f j i = true) : listed.getD i false = true := by
  cases f with
  | zero => cases h
  | succ f =>
    obtain ⟨_, oj, hoj, hall⟩ := mem_ready.1 hj
    unfold waitsT at h
    rw [hoj] at h
    obtain ⟨e, he, hb⟩ := Array.any_eq_true'.1 h
    simp only [Bool.and_eq_true, Bool.or_eq_true, beq_iff_eq] at hb
    have h1 := hall e he hb.1
    rcases hb.2 with rfl | h2
    · exact h1
    · exact hc.waits f _ i h1 h2

theorem Closed.set {listed : Array Bool} {i : Nat} (hc : Closed ops listed) (hi : i ∈ Region.ready .any ops listed) : Closed ops (listed.setIfInBounds i true) := by
  obtain ⟨_, oi, hoi, hall⟩ := mem_ready.1 hi
  intro j oj hj hl e he hb
  by_cases hij : i = j
  · subst hij
    have : oj = oi := Option.some.inj (hj.symm.trans hoi)
    subst this
    exact getD_set_true (hall e he hb)
  · rw [getD_set_ne false hij] at hl
    exact getD_set_true (hc j oj hj hl e he hb)

theorem Closed.start (n : Nat) : Closed ops (Array.replicate n false) := fun j oj _ hl => by rw [getD_replicate_false] at hl; cases hl

theorem unlisted_set {listed : Array Bool} {i j : Nat} (h : (listed.setIfInBounds i true).getD j true = false) : listed.getD j true = false := by
  by_cases hij : i = j
  · subst hij
    rcases Nat.lt_or_ge i listed.size with h' | h'
    · simp [h'] at h
    · simp [Array.getElem?_eq_none h'] at h
  · rwa [getD_set_ne true hij] at h

/-- All that lay there is as it was. -/
def Bel (w w' : World) : Prop := RowKit.Below w.heap.size w w'

theorem Bel.refl (w : World) : Bel w w := ⟨rfl, rfl, rfl, Nat.le_refl _, fun _ _ => rfl⟩
theorem Bel.trans {w w' w'' : World} (h : Bel w w') (h' : Bel w' w'') : Bel w w'' :=
  ⟨h'.os.trans h.os, h'.tape.trans h.tape, h'.output.trans h.output, Nat.le_trans h.size h'.size, fun k hk => (h'.block k (Nat.lt_of_lt_of_le hk h.size)).trans (h.block k hk)⟩

/-- In every world of a kind the operation yields this, and leaves all that lay there as it was. -/
def YieldsB (P : Program) (ops : Array Oper) (S : World → Prop) (o : Oper) (v : Value) (a : Act) : Prop :=
  (Region.wanted o (yielded ops a.tmps) = true ∧ ∀ w, S w → o.quietAt P a (Bel w) w v) ∨ (Region.wanted o (yielded ops a.tmps) = false ∧ v = undef)

theorem YieldsB.of_same {S : World → Prop} {o : Oper} {v : Value} {a a' : Act} (hy : YieldsB P ops S o v a) (he : execOp a'.eval o = execOp a.eval o)
    (hw : Region.wanted o (yielded ops a'.tmps) = Region.wanted o (yielded ops a.tmps)) : YieldsB P ops S o v a' := by
  unfold YieldsB Oper.quietAt at *
  rw [he, hw]
  exact hy

theorem YieldsB.wpOp {S : World → Prop} {i : Nat} {o : Oper} {v : Value} {a : Act} {Q : Exit → Act → World → Prop} (hi : ops[i]? = some o) (hy : YieldsB P ops S o v a)
    {K : Act → World → Prop} {w : World} (hS : S w) (h : ∀ w', Bel w w' → K (a.put o.dst v) w') : wpOp P ops Q i K a w := by
  unfold Go.wpOp
  simp only [hi]
  rcases hy with ⟨hw, hv⟩ | ⟨hw, rfl⟩
  · simp only [hw, if_true]
    refine .inl ?_
    have h3 := hv w hS
    unfold Oper.quietAt at h3
    unfold Oper.wp
    generalize (execOp a.eval o).run P w = r at *
    cases r with
    | ok n w' =>
      cases n <;> simp only [Oper.quietUpon] at h3 <;> simp only [Oper.upon]
      case value u =>
        obtain ⟨e1, e2⟩ := h3
        rw [e1, e2]
        exact h _ (Bel.refl w)
      case skip =>
        obtain ⟨e1, e2⟩ := h3
        rw [e1, ← e2]
        exact h _ (Bel.refl w)
      case enter f args =>
        obtain ⟨e1, hc⟩ := h3
        rw [e1]
        exact hc.mono fun e w'' ⟨he, hw''⟩ => by subst he; exact h _ hw''
    | halt x w' => simp only [Oper.quietUpon] at h3
  · simp only [hw, Bool.false_eq_true, if_false]; exact h w (Bel.refl w)

theorem wpOp_putB {S : World → Prop} {Q : Exit → Act → World → Prop} {j : Nat} {oi oj : Oper} {v : Value} (hj : ops[j]? = some oj) (hap : oi.apart ops oj = true)
    (hsi : ∀ cs b, oi.op ≠ .select cs b) (hsj : ∀ cs b, oj.op ≠ .select cs b)
    (hQ : ∀ c a w, ¬ Q (.panic c) a w) {K : Act → World → Prop} {a : Act} {w : World}
    (hy : YieldsB P ops S oi v a) (h : wpOp P ops Q j K (a.put oi.dst v) w) :
    wpOp P ops Q j (fun a' w' => YieldsB P ops S oi v a' ∧ K (a'.put oi.dst v) w') a w := by
  obtain ⟨h1, h2, h3⟩ := Oper.apart_spec hap
  have keep : ∀ (a : Act), YieldsB P ops S oi v a → ∀ u, YieldsB P ops S oi v (a.put oj.dst u) := fun a hy u =>
    hy.of_same (execOp_put oi hsi a oj.dst u h3) (wanted_put oi a oj.dst u h3)
  have keepD : ∀ d, YieldsB P ops S oi v { a with defers := d :: a.defers } := fun d => hy.of_same rfl rfl
  unfold wpOp at *
  simp only [hj] at *
  rw [wanted_put oj a oi.dst v h1] at h
  split
  · rename_i hw
    simp only [hw, if_true] at h
    rcases h with h | ⟨hasks, hlets⟩
    case inr => exact .inr ⟨by unfold Oper.asks at *; rw [execOp_put oj hsj a oi.dst v h1] at hasks; exact hasks, hlets⟩
    refine .inl ?_
    unfold Oper.wp at *
    rw [execOp_put oj hsj a oi.dst v h1] at h
    generalize (execOp a.eval oj).run P w = r at *
    cases r with
    | ok n w' =>
      cases n <;> simp only [Oper.upon] at h ⊢
      case value u => exact ⟨keep a hy u, by rw [← Act.put_comm a v u h2]; exact h⟩
      case skip => exact ⟨keep a hy _, by rw [← Act.put_comm a v undef h2]; exact h⟩
      case defer d =>
        refine ⟨keep _ (keepD d) _, ?_⟩
        rw [← Act.put_comm _ v undef h2, ← Act.put_defers]
        exact h
      case enter f args =>
        refine Calls.mono h fun e w'' he => ?_
        cases e with
        | returned u => exact ⟨keep a hy u, by rw [← Act.put_comm a v u h2]; exact he⟩
        | panicked c => exact absurd he (hQ _ _ _)
        | outgrown => exact he
      case row row args => exact Rows.mono h fun u w'' he => ⟨keep a hy u, by rw [← Act.put_comm a v u h2]; exact he⟩
    | halt x w' =>
      cases x <;> simp only [Oper.upon] at h ⊢
      case panic u => exact absurd h (hQ _ _ _)
  · rename_i hw
    simp only [hw] at h
    exact ⟨keep a hy _, by rw [← Act.put_comm a v undef h2]; exact h⟩

/-- Whatever order is picked from here on, from every world in which all that lay there is as it was; an operation that is to keep S does. -/
def wpAnyB (P : Program) (ops : Array Oper) (Q : Exit → Act → World → Prop) (S : World → Prop) (keep : Nat → Bool) : Nat → Array Bool → Act → World → Prop
  | 0, listed, a, w => Region.ready .any ops listed = [] ∧ ∀ w', Bel w w' → Q .normal a w'
  | f + 1, listed, a, w => (Region.ready .any ops listed = [] → ∀ w', Bel w w' → Q .normal a w') ∧
    ∀ i ∈ Region.ready .any ops listed, ∀ w', Bel w w' → wpOp P ops Q i (fun a2 w2 => (keep i = true → S w' → S w2) ∧ wpAnyB P ops Q S keep f (listed.setIfInBounds i true) a2 w2) a w'

theorem wpAny_of_B {Q : Exit → Act → World → Prop} {S : World → Prop} {keep : Nat → Bool} : ∀ (f : Nat) (listed : Array Bool) (a : Act) (w : World), wpAnyB P ops Q S keep f listed a w → wpAny P .any ops Q f listed a w
  | 0, _, _, w, h => ⟨h.1, h.2 w (Bel.refl w)⟩
  | f + 1, _, _, w, h => ⟨fun h0 => h.1 h0 w (Bel.refl w), fun i hi => wpOp_mono (fun a' w' h' => wpAny_of_B f _ a' w' h'.2) (h.2 i hi w (Bel.refl w))⟩

theorem wpAnyB_bel {Q : Exit → Act → World → Prop} {S : World → Prop} {keep : Nat → Bool} {f : Nat} {listed : Array Bool} {a : Act} {w w' : World} (hw : Bel w w') (h : wpAnyB P ops Q S keep f listed a w) : wpAnyB P ops Q S keep f listed a w' := by
  cases f with
  | zero => exact ⟨h.1, fun w'' hw' => h.2 w'' (hw.trans hw')⟩
  | succ f => exact ⟨fun h0 w'' hw' => h.1 h0 w'' (hw.trans hw'), fun i hi w'' hw' => h.2 i hi w'' (hw.trans hw')⟩

/-- Whoever need not keep S waits for operation i. -/
def KeepOk (ops : Array Oper) (keep : Nat → Bool) (i : Nat) (listed : Array Bool) : Prop :=
  ∀ j, j < ops.size → j ≠ i → keep j = false → listed.getD j true = false → waitsT ops ops.size j i = true

theorem wpAnyB_first {Q : Exit → Act → World → Prop} {S S0 : World → Prop} {keep : Nat → Bool} {i : Nat} {oi : Oper} {v : Value} (hi : ops[i]? = some oi) (hsel : ∀ (j : Nat) (o : Oper) cs b, ops[j]? = some o → o.op ≠ .select cs b)
    (hQ : ∀ c a w, ¬ Q (.panic c) a w) (hSb : ∀ w w', Bel w w' → S w → S w') :
    ∀ (f : Nat) (listed : Array Bool) (a : Act) (w : World), ((∀ w, S0 w) ∨ (S0 = S ∧ S w ∧ KeepOk ops keep i listed)) → Closed ops listed →
      (∀ j oj, ops[j]? = some oj → j ≠ i → listed.getD j true = false → (∀ e ∈ oj.after, Region.binds .any e = true → e.on ≠ i) → oi.apart ops oj = true) →
      i ∈ Region.ready .any ops listed → YieldsB P ops S0 oi v a →
      wpAnyB P ops Q S keep f (listed.setIfInBounds i true) (a.put oi.dst v) w → wpAnyB P ops Q S keep (f + 1) listed a w := by
  have self : ∀ (f : Nat) (listed : Array Bool) (a : Act) (w : World), ((∀ w, S0 w) ∨ (S0 = S ∧ S w ∧ KeepOk ops keep i listed)) → YieldsB P ops S0 oi v a →
      wpAnyB P ops Q S keep f (listed.setIfInBounds i true) (a.put oi.dst v) w → ∀ w', Bel w w' →
      wpOp P ops Q i (fun a2 w2 => (keep i = true → S w' → S w2) ∧ wpAnyB P ops Q S keep f (listed.setIfInBounds i true) a2 w2) a w' := fun f listed a w hs hy H w' hw' =>
    have h0 : S0 w' := hs.elim (fun h => h _) (fun h => by rw [h.1]; exact hSb _ _ hw' h.2.1)
    hy.wpOp hi h0 fun w'' hw'' => ⟨fun _ h => hSb _ _ hw'' h, wpAnyB_bel (hw'.trans hw'') H⟩
  intro f
  induction f with
  | zero =>
    intro listed a w hs hc _ hr hy H
    refine ⟨fun h => (by rw [h] at hr; cases hr), fun j hj w' hw' => ?_⟩
    by_cases hji : j = i
    · subst hji; exact self 0 listed a w hs hy H w' hw'
    · have := ready_mono hj hji
      rw [H.1] at this
      cases this
  | succ f ih =>
    intro listed a w hs hc hfree hr hy H
    have hun := (mem_ready.1 hr).1
    refine ⟨fun h => (by rw [h] at hr; cases hr), fun j hj w' hw' => ?_⟩
    by_cases hji : j = i
    · subst hji; exact self _ listed a w hs hy H w' hw'
    · have h1 := H.2 j (ready_mono hj hji) w' hw'
      obtain ⟨hjun, oj, hoj, hall⟩ := mem_ready.1 hj
      have hnot : ∀ e ∈ oj.after, Region.binds .any e = true → e.on ≠ i := fun e he hb heq => by
        have h1 := hall e he hb
        rw [heq, getD_both hun] at h1
        cases h1
      have h2 := wpOp_putB hoj (hfree j oj hoj hji hjun hnot) (fun cs b => hsel i oi cs b hi) (fun cs b => hsel j oj cs b hoj) hQ hy h1
      have hfree' : ∀ k ok, ops[k]? = some ok → k ≠ i → (listed.setIfInBounds j true).getD k true = false →
          (∀ e ∈ ok.after, Region.binds .any e = true → e.on ≠ i) → oi.apart ops ok = true := fun k ok hk hki hun hno => hfree k ok hk hki (unlisted_set hun) hno
      refine wpOp_mono (fun a' w2 h3 => ⟨h3.2.1, ih (listed.setIfInBounds j true) a' w2 ?_ (hc.set hj) hfree' (ready_mono hr (Ne.symm hji)) h3.1 ?_⟩) h2
      · rcases hs with h | ⟨rfl, hw, hk⟩
        · exact .inl h
        · refine .inr ⟨rfl, ?_, fun k hk1 hk2 hk3 hk4 => hk k hk1 hk2 hk3 (unlisted_set hk4)⟩
          refine h3.2.1 ?_ (hSb _ _ hw' hw)
          cases hkj : keep j with
          | true => rfl
          | false =>
            have h5 := ready_waits hc hj (hk j (Array.getElem?_eq_some_iff.1 hoj).1 hji hkj hjun)
            rw [getD_both hun] at h5
            cases h5
      · rw [Array.setIfInBounds_comm _ _ hji]
        exact h3.2.2

def setAll : Array Bool → List Nat → Array Bool
  | l, [] => l
  | l, i :: is => setAll (l.setIfInBounds i true) is

/-- Operation i may be taken now: by itself (deep = false) or by what memory was when the region began. -/
def takeB (ops : Array Oper) (ks : List Nat) (deep : Bool) : Array Bool → List Nat → Bool
  | _, [] => true
  | listed, i :: is => (Region.ready .any ops listed).contains i && Region.free .any ops listed i &&
      (!deep || (List.range ops.size).all fun j => j == i || !ks.contains j || listed.getD j true || waitsT ops ops.size j i) && takeB ops ks deep (listed.setIfInBounds i true) is
end order

section
variable {P : Program} {ops : Array Oper} {Q : Exit → AS → Prop} {s : AS}

/-- One operation of a region, by its number. -/
def execI (P : Program) (ops : Array Oper) (s : AS) (K : AS → Prop) : Option Oper → Prop
  | some o => guardK ops o s (opK P o s K) (K (s.put o.dst U))
  | none => False

def isFCall (o : Oper) : Bool := match o.op with | .call c => (match c.callee with | .value _ => true | _ => false) | _ => false

/-- An operation that looks at the memory hS alone, or calls what looks at it alone. -/
def opB (P : Program) (o : Oper) (hS : List Blk) (s : AS) (K : AS → Prop) : Prop :=
  match o.op with
  | .call c =>
    match c.callee with
    | .value (.func f) => ∃ v h', AC P f (c.args.toList.map (ev s.t)) (ro hS) v h' ∧ (∀ x ∈ c.args.toList.map (ev s.t), wfV hS.length x) ∧ plainV v = true ∧ K (s.put o.dst v)
    | _ => someK (qop P s.t hS (.call c)) fun v => K (s.put o.dst v)
  | op => someK (qop P s.t hS op) fun v => K (s.put o.dst v)

def takeI (P : Program) (ops : Array Oper) (deep : Bool) (hS : List Blk) (K : AS → Prop) : List Nat → AS → Prop
  | [], s => K s
  | i :: is, s => match ops[i]? with
    | some o => guardK ops o s ((deep = false → isFCall o = false) ∧ opB P o hS s (takeI P ops deep hS K is)) (takeI P ops deep hS K is (s.put o.dst U))
    | none => False

variable {n0 : Nat}

def PostN (n : Nat) (Q : Exit → AS → Prop) (E : Emb) (h : List Blk) (w : World) : Exit → Act → World → Prop :=
  fun e a w' => (∀ c, e ≠ .panic c) ∧ Post n Q E h w e a w'

theorem PostN.no {E : Emb} {h : List Blk} {w : World} (c : List PanicEntry) (a : Act) (w' : World) : ¬ PostN n0 Q E h w (.panic c) a w' := fun h => h.1 c rfl

/-- Part of a memory: some of its blocks are not looked at. -/
def SubM (hS h : List Blk) : Prop := hS.length = h.length ∧ ∀ (b : Nat) (k : Blk), hS[b]? = some k → k.cells = [] ∨ h[b]? = some k
def Alive (hS h : List Blk) : Prop := ∀ (b : Nat) (k : Blk), hS[b]? = some k → k.cells ≠ [] → ∃ k', h[b]? = some k' ∧ k'.cells ≠ []

theorem SubM.refl (h : List Blk) : SubM h h := ⟨rfl, fun _ _ hb => .inr hb⟩
theorem SubM.set {hS h : List Blk} (hs : SubM hS h) (i : Nat) : SubM (hS.set i dead) h := by
  refine ⟨by simpa using hs.1, fun b k hb => ?_⟩
  rcases get_set hb with ⟨_, hb⟩ | ⟨rfl, rfl, _⟩
  · exact hs.2 b k hb
  · exact .inl rfl
theorem SubM.alive {hS h : List Blk} (hs : SubM hS h) : Alive hS h := fun b k hb hk => ⟨k, (hs.2 b k hb).resolve_left hk, hk⟩

structure Held (Es : Emb) (hS : List Blk) (ws : World) (E : Emb) (n : Nat) : Prop where
  mem : HR Es (ro hS) ws
  loc : ∀ b, b < hS.length → E.loc b = Es.loc b
  room : ∀ b, b < hS.length → E.room b = Es.room b ∧ E.base b = Es.base b
  len : hS.length ≤ n

theorem ro_length (h : List Blk) : (ro h).length = h.length := by simp [ro]
theorem ro_of {h : List Blk} {b : Nat} {k : Blk} (hb : h[b]? = some k) : (ro h)[b]? = some ⟨k.cells, false⟩ := by
  unfold ro; rw [List.getElem?_map, hb]; rfl

def SB (Es : Emb) (hS : List Blk) (ws w : World) : Prop := SOn Es hS ws w ∧ ws.heap.size ≤ w.heap.size ∧ doorOk w

theorem Held.cell {Es : Emb} {hS : List Blk} {ws : World} {E : Emb} {n : Nat} (hh : Held Es hS ws E n) {b i : Nat} {k : Blk} {x : Value} (hb : hS[b]? = some k) (hx : k.cells[i]? = some x) :
    ∃ y, ws.cell? (Es.at b i) = some y ∧ CR Es hS.length x y := by
  obtain ⟨y, h1, h2⟩ := hh.mem.cell b _ i x (ro_of hb) hx
  exact ⟨y, h1, by rwa [ro_length] at h2⟩

theorem SB.bel {Es : Emb} {hS : List Blk} {ws : World} {E : Emb} {n : Nat} (hh : Held Es hS ws E n) {w w' : World} (hw : Bel w w') (h : SB Es hS ws w) : SB Es hS ws w' := by
  refine ⟨fun b k i hb hi => ?_, Nat.le_trans h.2.1 hw.size, h.2.2.keep hw.size fun i hi => below_same hw i (Nat.lt_of_lt_of_le hi h.2.2.lt)⟩
  obtain ⟨y, hy, _⟩ := hh.cell hb (List.getElem?_eq_getElem hi)
  have h1 := h.1.cell hb hi hy
  rw [hy, (below_same hw).cell h1]

theorem Held.step {Es : Emb} {hS h h' : List Blk} {ws w w' : World} {E E' : Emb} (hh : Held Es hS ws E h.length) (hl : Link E h w E' h' w') : Held Es hS ws E' h'.length :=
  ⟨hh.mem, fun b hb => (hl.loc b (Nat.lt_of_lt_of_le hb hh.len)).trans (hh.loc b hb), fun b hb => ⟨(hl.room b (Nat.lt_of_lt_of_le hb hh.len)).1.trans (hh.room b hb).1, (hl.room b (Nat.lt_of_lt_of_le hb hh.len)).2.trans (hh.room b hb).2⟩, Nat.le_trans hh.len hl.len⟩

/-- What an operation that only looks finds in more memory. -/
theorem loadA_ext {h h2 : List Blk} (hx : ∀ (b : Nat) (k : Blk), h[b]? = some k → ∃ k2, h2[b]? = some k2 ∧ k2.cells = k.cells) {T : TypeId} {p : Addr} {v : Value} (hq : loadA P h T p = some v) : loadA P h2 T p = some v := by
  unfold loadA at hq ⊢
  split at hq
  · obtain ⟨k, hk, hq⟩ := bind_some' hq
    obtain ⟨k2, h1, h2⟩ := hx _ _ hk
    rw [h1, Option.bind_some, h2]; exact hq
  · obtain ⟨n, hn, hq⟩ := bind_some' hq
    obtain ⟨k, hk, hq⟩ := bind_some' hq
    obtain ⟨k2, h1, h2⟩ := hx _ _ hk
    rw [hn, Option.bind_some, h1, Option.bind_some, h2]; exact hq
  · cases hq

theorem qop_ext {t : List Value} {h h2 : List Blk} (hx : ∀ (b : Nat) (k : Blk), h[b]? = some k → ∃ k2, h2[b]? = some k2 ∧ k2.cells = k.cells) {op : Op} {v : Value} (hq : qop P t h op = some v) : qop P t h2 op = some v := by
  unfold qop at hq ⊢
  split at hq
  case h_4 T x =>
    obtain ⟨p, hp, hq⟩ := bind_some' hq
    show (ptrA (ev t x)).bind _ = _
    rw [hp]; exact loadA_ext hx hq
  case h_8 src dst x =>
    show convS P h2 src dst (ev t x) = _
    unfold convS at hq ⊢
    split at hq
    · unfold strOfA at hq ⊢
      split at hq
      · split at hq
        · rename_i hi
          rw [if_pos hi]
          obtain ⟨s, hs, hq⟩ := bind_some' hq
          obtain ⟨k, hk, hq⟩ := bind_some' hq
          obtain ⟨k2, h1, h2⟩ := hx _ _ hk
          rw [hs, Option.bind_some, h1, Option.bind_some, h2]; exact hq
        · cases hq
      · cases hq
    · exact hq
  case h_14 T x lo hi =>
    show aslice P h2 T (ev t x) (lo.map (ev t)) (hi.map (ev t)) = _
    unfold aslice at hq ⊢
    obtain ⟨l, hl, hq⟩ := bind_some' hq
    rw [hl, Option.bind_some]
    split at hq
    · obtain ⟨p, hp, hq⟩ := bind_some' hq
      obtain ⟨u, hu, hq⟩ := bind_some' hq
      obtain ⟨z, hz, hq⟩ := bind_some' hq
      obtain ⟨k, hk, hq⟩ := bind_some' hq
      obtain ⟨k2, h1, h2⟩ := hx _ _ hk
      rw [hp, Option.bind_some, hu, Option.bind_some, hz, Option.bind_some, h1, Option.bind_some, h2]; exact hq
    · exact hq
    · exact hq
    · cases hq
  all_goals exact hq

/-- The memory at hand, of which only these blocks are looked at. -/
theorem Held.view {Es : Emb} {hS : List Blk} {ws : World} {E : Emb} {h : List Blk} {w : World} (hh : Held Es hS ws E h.length) (hr : HR E h w) (hs : SB Es hS ws w) : HR E (ro hS ++ List.replicate (h.length - hS.length) dead) w := by
  have hlen : (ro hS ++ List.replicate (h.length - hS.length) dead).length = h.length := by have := hh.len; simp [ro_length]; omega
  have get : ∀ (b : Nat) (k : Blk), (ro hS ++ List.replicate (h.length - hS.length) dead)[b]? = some k → b < h.length ∧ ((b < hS.length ∧ (ro hS)[b]? = some k) ∨ k = dead) := fun b k hb => by
    have hb' : b < h.length := by have := (List.getElem?_eq_some_iff.1 hb).1; rwa [hlen] at this
    refine ⟨hb', ?_⟩
    rw [List.getElem?_append] at hb
    split at hb
    · rename_i h1; exact .inl ⟨by rwa [ro_length] at h1, hb⟩
    · rw [List.getElem?_replicate] at hb
      split at hb
      · exact .inr (by cases hb; rfl)
      · cases hb
  have norw : ∀ (b : Nat) (k : Blk), (ro hS ++ List.replicate (h.length - hS.length) dead)[b]? = some k → k.rw = false := fun b k hb => by
    rcases (get b k hb).2 with ⟨_, h1⟩ | rfl
    · obtain ⟨_, _, _, h2⟩ := ro_get h1; exact h2
    · rfl
  refine ⟨fun b k hb => ?_, fun b k i x hb hx => ?_, fun b k hb => ?_, fun b k hb hk => ?_, fun b k hb hk => ?_, hr.door, fun b k hb hk => by rw [norw b k hb] at hk; cases hk⟩
  · exact hr.lt b _ (List.getElem?_eq_getElem (get b k hb).1)
  · rcases (get b k hb).2 with ⟨h0, h1⟩ | rfl
    · obtain ⟨k', h2, h3, _⟩ := ro_get h1
      rw [h3] at hx
      obtain ⟨y, hy, hc⟩ := hh.cell h2 hx
      refine ⟨y, ?_, ?_⟩
      · rw [Emb.at, hh.loc b h0, (hh.room b h0).2]; exact hs.1.cell h2 (List.getElem?_eq_some_iff.1 hx).1 hy
      · rw [hlen]; exact hc.mono hh.loc hh.room hh.len
    · simp [dead] at hx
  · rcases (get b k hb).2 with ⟨h0, h1⟩ | rfl
    · rw [(hh.room b h0).1]; exact hh.mem.room b k h1
    · simp [dead]
  · rw [norw b k hb] at hk; cases hk
  · rw [norw b k hb] at hk; cases hk

def deepM (deep : Bool) (hS : List Blk) : List Blk := if deep = true then hS else []

theorem opB_sound {o : Oper} {E : Emb} {a : Act} {w : World} {Es : Emb} {hS : List Blk} {ws : World} {deep : Bool} {K : AS → Prop} (hs : SR E s a w) (hh : Held Es hS ws E s.h.length) (hok : deep = true → SB Es hS ws w)
    (hn : deep = false → isFCall o = false) (h : opB P o (deepM deep hS) s K) :
    ∃ v v', K (s.put o.dst v) ∧ VR E s.h.length v v' ∧ ∀ w1, (deep = true → SB Es hS ws w1) → o.quietAt P a (Bel w1) w1 v' := by
  have hq : ∀ op, o.op = op → someK (qop P s.t (deepM deep hS) op) (fun v => K (s.put o.dst v)) → ∃ v v', K (s.put o.dst v) ∧ VR E s.h.length v v' ∧ ∀ w1, (deep = true → SB Es hS ws w1) → o.quietAt P a (Bel w1) w1 v' := fun op ho hK => by
    cases hq : qop P s.t (deepM deep hS) op with
    | none => rw [hq] at hK; exact hK.elim
    | some v =>
      rw [hq] at hK
      cases deep with
      | false =>
        have hr : HR E (List.replicate s.h.length dead) w := by
          have get : ∀ (b : Nat) (k : Blk), (List.replicate s.h.length dead)[b]? = some k → b < s.h.length ∧ k = dead := fun b k hb => by
            rw [List.getElem?_replicate] at hb
            split at hb
            · rename_i h1; cases hb; exact ⟨h1, rfl⟩
            · cases hb
          refine ⟨fun b k hb => hs.mem.lt b _ (List.getElem?_eq_getElem (get b k hb).1), fun b k i x hb hx => ?_, fun b k hb => ?_, fun b k hb hk => ?_, fun b k hb hk => ?_, hs.mem.door, fun b k hb hk => by rw [(get b k hb).2] at hk; cases hk⟩
          · rw [(get b k hb).2] at hx; simp [dead] at hx
          · rw [(get b k hb).2]; simp [dead]
          · rw [(get b k hb).2] at hk; cases hk
          · rw [(get b k hb).2] at hk; cases hk
        have hq2 : qop P s.t (List.replicate s.h.length dead) o.op = some v := by
          rw [ho]; exact qop_ext (h := []) (fun b k hb => by simp at hb) hq
        obtain ⟨v', hv, hrun⟩ := qop_sound (o := o) hr (by simpa using hs.tmps) hq2
        refine ⟨v, v', hK, by simpa using hv, fun w1 _ => ?_⟩
        unfold Oper.quietAt
        rw [hrun w1 (fun b k i hb hi => by
          rw [List.getElem?_replicate] at hb
          split at hb
          · cases hb; simp [dead] at hi
          · cases hb)]
        exact ⟨rfl, rfl⟩
      | true =>
        have hsb := hok rfl
        have hr := hh.view hs.mem hsb
        have hlen : (ro hS ++ List.replicate (s.h.length - hS.length) dead).length = s.h.length := by have := hh.len; simp [ro_length]; omega
        have hq2 : qop P s.t (ro hS ++ List.replicate (s.h.length - hS.length) dead) o.op = some v := by
          rw [ho]
          refine qop_ext (h := hS) (fun b k hb => ⟨⟨k.cells, false⟩, ?_, rfl⟩) hq
          rw [List.getElem?_append_left (by rw [ro_length]; exact (List.getElem?_eq_some_iff.1 hb).1)]
          exact ro_of hb
        obtain ⟨v', hv, hrun⟩ := qop_sound (o := o) hr (by rw [hlen]; exact hs.tmps) hq2
        refine ⟨v, v', hK, by rwa [hlen] at hv, fun w1 h1 => ?_⟩
        unfold Oper.quietAt
        rw [hrun w1 (fun b k i hb hi => by
          rw [List.getElem?_append] at hb
          split at hb
          · rename_i hb0
            rw [ro_length] at hb0
            obtain ⟨k', h2, h3, _⟩ := ro_get hb
            rw [h3] at hi
            rw [Emb.at, hh.loc b hb0, (hh.room b hb0).2]
            exact ((h1 rfl).1 b k' i h2 hi).trans (hsb.1 b k' i h2 hi).symm
          · rw [List.getElem?_replicate] at hb
            split at hb
            · cases hb; simp [dead] at hi
            · cases hb)]
        exact ⟨rfl, rfl⟩
  unfold opB at h
  split at h
  · rename_i c ho
    split at h
    · rename_i f hf
      obtain ⟨v, h', ⟨hcall, hac⟩, hwf, hp, hk⟩ := h
      cases deep with
      | false => have := hn rfl; unfold isFCall at this; rw [ho] at this; simp [hf] at this
      | true =>
        refine ⟨v, v, hk, VR.of_plain hp, fun w1 h1 => ?_⟩
        have hsb1 := h1 rfl
        obtain ⟨dst, op, ty, pos, after, guard⟩ := o
        obtain ⟨callee, args, types⟩ := c
        simp only at ho hf hac hwf
        subst ho hf
        have hrun : (execOp a.eval { dst, op := .call { callee := .value (.func f), args, argTypes := types }, type := ty, pos, after, guard }).run P w1 = .ok (.enter f (args.map a.eval)) w1 := by
          simp [execOp, resolve, Act.eval, Deferred.ofValue, invoke]
          exact hcall _ _
        unfold Oper.quietAt
        rw [hrun]
        have hm : HR Es (ro hS) w1 := by
          have h2 := hh.mem
          refine ⟨fun b k hb => Nat.lt_of_lt_of_le (h2.lt b k hb) hsb1.2.1, fun b k i x hb hx => ?_, h2.room, fun b k hb hk => ?_, fun b k hb hk => ?_, hsb1.2.2, fun b k hb hk => by obtain ⟨_, _, _, h3⟩ := ro_get hb; rw [h3] at hk; cases hk⟩
          · obtain ⟨k', h3, h4, _⟩ := ro_get hb
            obtain ⟨y, hy, hc⟩ := h2.cell b k i x hb hx
            exact ⟨y, hsb1.1.cell h3 (by rw [← h4]; exact (List.getElem?_eq_some_iff.1 hx).1) hy, hc⟩
          · obtain ⟨_, _, _, h3⟩ := ro_get hb; rw [h3] at hk; cases hk
          · obtain ⟨_, _, _, h3⟩ := ro_get hb; rw [h3] at hk; cases hk
        refine ⟨rfl, (hac Es w1 (args.map a.eval) hm ?_).mono ?_⟩
        · refine P2.of_get (by simp) fun i x hx => ?_
          have hx0 := hx
          rw [List.getElem?_map] at hx
          cases hi : args.toList[i]? with
          | none => rw [hi] at hx; cases hx
          | some y =>
            rw [hi] at hx
            cases hx
            refine ⟨a.eval y, by rw [Array.toList_map, List.getElem?_map, hi]; rfl, ?_⟩
            have h3 := (ev_sound hs.tmps y).down (hwf _ (List.mem_of_getElem? hx0))
            rw [show (deepM true hS).length = (ro hS).length by rw [ro_length]; rfl] at h3
            exact h3.mono (fun b hb => (hh.loc b (by rwa [ro_length] at hb)).symm) (fun b hb => ⟨(hh.room b (by rwa [ro_length] at hb)).1.symm, (hh.room b (by rwa [ro_length] at hb)).2.symm⟩) (Nat.le_refl _)
        · rintro e w'' ⟨E', v', rfl, h3, _, h5⟩
          refine ⟨by rw [h3.plain hp], h5.os, h5.tape, h5.output, h5.size, fun k hk => h5.frame k hk fun b kb hb hrw => ?_⟩
          obtain ⟨_, _, _, hf⟩ := ro_get hb
          rw [hf] at hrw; cases hrw
    · exact hq _ ho h
  · exact hq _ rfl h

/-- From here on, whatever order is drawn. 'ks': the operations that need not keep what is looked at; 'ok': it has been kept. -/
def RB (P : Program) (n0 : Nat) (ops : Array Oper) (ks : List Nat) (hS : List Blk) (Q : Exit → AS → Prop) (ok : Bool) (n : Nat) (listed : Array Bool) (s : AS) : Prop :=
  ∀ (E : Emb) (a : Act) (w : World) (E0 : Emb) (h0 : List Blk) (w0 : World) (Es : Emb) (ws : World), Closed ops listed → SR E s a w → LinkN n0 E0 h0 w0 E s.h w → Held Es hS ws E s.h.length → (ok = true → SB Es hS ws w ∧ Alive hS s.h) →
    wpAnyB P ops (PostN n0 Q E0 h0 w0) (SB Es hS ws) (fun j => !ks.contains j) n listed a w

@[congr] theorem RB_congr {P : Program} {n0 : Nat} {ops : Array Oper} {ks : List Nat} {hS : List Blk} {Q : Exit → AS → Prop} {ok : Bool} {n : Nat} {l : Array Bool} {s s' : AS} (h : s = s') : RB P n0 ops ks hS Q ok n l s = RB P n0 ops ks hS Q ok n l s' := by rw [h]

theorem WA_rb {id : Nat} (ks : List Nat) {hS : List Blk} (hsub : SubM hS s.h) (hm : P.follows .mixedOrders = true) (h : RB P n0 ops ks hS Q true ops.size (Array.replicate ops.size false) s) : WA P n0 (.region id ops true) Q s := fun E a w hn hs => by
  have hd : SR E s a w.drew := ⟨hs.mem.drew, hs.tmps, hs.defers⟩
  have hm' : HR E (ro hS) w.drew := by
    have h1 := hd.mem
    have up : ∀ (b : Nat) (k : Blk), (ro hS)[b]? = some k → ∃ k1 k2, hS[b]? = some k1 ∧ k.cells = k1.cells ∧ s.h[b]? = some k2 := fun b k hb => by
      obtain ⟨k1, h2, h3, _⟩ := ro_get hb
      exact ⟨k1, _, h2, h3, List.getElem?_eq_getElem (by rw [← hsub.1]; exact (List.getElem?_eq_some_iff.1 h2).1)⟩
    refine ⟨fun b k hb => ?_, fun b k i x hb hx => ?_, fun b k hb => ?_, fun b k hb hk => ?_, fun b k hb hk => ?_, h1.door, fun b k hb hk => by obtain ⟨_, _, _, h3⟩ := ro_get hb; rw [h3] at hk; cases hk⟩
    · obtain ⟨_, k2, _, _, h2⟩ := up b k hb; exact h1.lt b k2 h2
    · obtain ⟨k1, k2, h2, h3, h4⟩ := up b k hb
      rw [h3] at hx
      rcases hsub.2 b k1 h2 with h5 | h5
      · rw [h5] at hx; simp at hx
      · obtain ⟨y, hy, hc⟩ := h1.cell b k1 i x h5 hx
        exact ⟨y, hy, by rw [ro_length, hsub.1]; exact hc⟩
    · obtain ⟨k1, k2, h2, h3, h4⟩ := up b k hb
      rw [h3]
      rcases hsub.2 b k1 h2 with h5 | h5
      · rw [h5]; simp
      · exact h1.room b k1 h5
    · obtain ⟨_, _, _, h2⟩ := ro_get hb; rw [h2] at hk; cases hk
    · obtain ⟨_, _, _, h2⟩ := ro_get hb; rw [h2] at hk; cases hk
  refine wp_mono (wp_region_any (Q := PostN n0 Q E s.h w) hm (wpAny_of_B _ _ _ _ (h E a w.drew E s.h w E w.drew (Closed.start _) hd ((Link.drew E s.h w).toN hn) ⟨hm', fun _ _ => rfl, fun _ _ => ⟨rfl, rfl⟩, by rw [hsub.1]; exact Nat.le_refl _⟩ fun _ => ⟨⟨fun _ _ _ _ _ => rfl, Nat.le_refl _, hm'.door⟩, hsub.alive⟩))) fun e a' w' h => h.2

variable {ks : List Nat} {hS : List Blk} {ok : Bool}

theorem Link.bel {E : Emb} {h : List Blk} {w w' : World} (hw : Bel w w') : Link E h w E h w' :=
  ⟨Nat.le_refl _, fun _ _ => rfl, fun _ _ => ⟨rfl, rfl⟩, hw.size, hw.os, hw.tape, hw.output, fun i hi _ => hw.block i hi, fun b k hb hk => .inr ⟨b, k, hb, hk, rfl⟩⟩

theorem SR.bel {E : Emb} {a : Act} {w w' : World} (hw : Bel w w') (hs : SR E s a w) : SR E s a w' := ⟨hs.mem.same (below_same hw) hw.size, hs.tmps, hs.defers⟩

theorem RB_done {n : Nat} {listed : Array Bool} (hr : Region.ready .any ops listed = []) (h : Q .normal s) : RB P n0 ops ks hS Q ok n listed s := fun E a w E0 h0 w0 Es ws _ hs hl _ _ => by
  have hq : ∀ w', Bel w w' → PostN n0 Q E0 h0 w0 .normal a w' := fun w' hw' => ⟨by simp, E, s, h, hs.bel hw', hl.trans ((Link.bel hw').toN hl.len)⟩
  cases n with
  | zero => exact ⟨hr, hq⟩
  | succ n => exact ⟨fun _ => hq, fun i hi => by rw [hr] at hi; cases hi⟩

/-- Operations are taken, ahead of all others. -/
theorem RB_take (deep : Bool) (is : List Nat) (n : Nat) {m : Nat} {listed : Array Bool} (hm : m = is.length + n) (hsel : Region.noSelect ops = true) (hok : deep = true → ok = true) (hB : takeB ops ks deep listed is = true)
    (h : takeI P ops deep (deepM deep hS) (RB P n0 ops ks hS Q ok n (setAll listed is)) is s) : RB P n0 ops ks hS Q ok m listed s := by
  induction is generalizing m listed s with
  | nil => subst hm; simp only [List.length_nil, Nat.zero_add]; exact h
  | cons i is ih =>
    intro E a w E0 h0 w0 Es ws hc hs hl hh hk
    subst hm
    simp only [takeB, Bool.and_eq_true] at hB
    obtain ⟨⟨⟨hr, hf⟩, hkeep⟩, hB'⟩ := hB
    have hr' : i ∈ Region.ready .any ops listed := by simpa using hr
    obtain ⟨_, oi, hoi, _⟩ := mem_ready.1 hr'
    have hcont : ∀ (v v' : Value), VR E s.h.length v v' → takeI P ops deep (deepM deep hS) (RB P n0 ops ks hS Q ok n (setAll (listed.setIfInBounds i true) is)) is (s.put oi.dst v) →
        wpAnyB P ops (PostN n0 Q E0 h0 w0) (SB Es hS ws) (fun j => !ks.contains j) (is.length + n) (listed.setIfInBounds i true) (a.put oi.dst v') w := fun v v' hv h2 => by
      have hsh : (s.put oi.dst v).h = s.h := by cases oi.dst <;> rfl
      exact ih (m := is.length + n) (s := s.put oi.dst v) rfl hB' h2 E (a.put oi.dst v') w E0 h0 w0 Es ws (hc.set hr') (hs.put _ hv) (by rw [hsh]; exact hl) (by rw [hsh]; exact hh) (by rw [hsh]; exact hk)
    have key : ∃ v', YieldsB P ops (fun w1 => deep = true → SB Es hS ws w1) oi v' a ∧
        wpAnyB P ops (PostN n0 Q E0 h0 w0) (SB Es hS ws) (fun j => !ks.contains j) (is.length + n) (listed.setIfInBounds i true) (a.put oi.dst v') w := by
      unfold takeI at h
      rw [hoi] at h
      rcases wanted_guard hs h with ⟨hw, hn, h⟩ | ⟨hw, h⟩
      · obtain ⟨v, v', h1, h2, h3⟩ := opB_sound hs hh (fun hd => (hk (hok hd)).1) hn h
        exact ⟨v', .inl ⟨hw, h3⟩, hcont v v' h2 h1⟩
      · exact ⟨undef, .inr ⟨hw, rfl⟩, hcont U undef VR.undef h⟩
    obtain ⟨v', hy, H⟩ := key
    rw [show (i :: is).length + n = (is.length + n) + 1 by simp; omega]
    cases deep with
    | false =>
      exact wpAnyB_first (S0 := fun w1 => false = true → SB Es hS ws w1) hoi (Region.noSelect_spec hsel) (fun c a w => PostN.no c a w) (fun _ _ hw h => h.bel hh hw) _ listed a w (.inl fun _ hf => by cases hf) hc (Region.free_spec hoi hf) hr' hy H
    | true =>
      have hy' : YieldsB P ops (SB Es hS ws) oi v' a := hy.imp (fun ⟨h1, h2⟩ => ⟨h1, fun w1 hw1 => h2 w1 fun _ => hw1⟩) id
      refine wpAnyB_first (S0 := SB Es hS ws) hoi (Region.noSelect_spec hsel) (fun c a w => PostN.no c a w) (fun _ _ hw h => h.bel hh hw) _ listed a w (.inr ⟨rfl, (hk (hok rfl)).1, fun j hj hne hkj hlj => ?_⟩) hc (Region.free_spec hoi hf) hr' hy' H
      simp only [Bool.not_true, Bool.false_or] at hkeep
      have h1 := List.all_eq_true.1 hkeep j (List.mem_range.2 hj)
      simp only [Bool.or_eq_true, beq_iff_eq, hne, false_or, hlj, Bool.false_eq_true, or_false] at h1
      rcases h1 with h1 | h1
      · have hkj' : (!ks.contains j) = false := hkj
        rw [hkj'] at h1; cases h1
      · exact h1

theorem exec_sound {i : Nat} {listed : Array Bool} {n : Nat} (hi : i ∈ Region.ready .any ops listed) (hks : ks.contains i = true) (h : execI P ops s (RB P n0 ops ks hS Q false n (listed.setIfInBounds i true)) (ops[i]?))
    (E : Emb) (a : Act) (w : World) (E0 : Emb) (h0 : List Blk) (w0 : World) (Es : Emb) (ws : World) (hc : Closed ops listed) (hs : SR E s a w) (hl : LinkN n0 E0 h0 w0 E s.h w) (hh : Held Es hS ws E s.h.length) (w' : World) (hw' : Bel w w') :
    wpOp P ops (PostN n0 Q E0 h0 w0) i (fun a2 w2 => ((fun j => !ks.contains j) i = true → SB Es hS ws w' → SB Es hS ws w2) ∧ wpAnyB P ops (PostN n0 Q E0 h0 w0) (SB Es hS ws) (fun j => !ks.contains j) n (listed.setIfInBounds i true) a2 w2) a w' := by
  have hc' := hc.set hi
  have hs' := hs.bel hw'
  have hl' := hl.trans ((Link.bel (E := E) (h := s.h) hw').toN hl.len)
  have no : ∀ w2, (fun j => !ks.contains j) i = true → SB Es hS ws w' → SB Es hS ws w2 := fun w2 hk => by simp only [hks] at hk; cases hk
  unfold wpOp
  cases ho : ops[i]? with
  | none => rw [ho] at h; exact h.elim
  | some o =>
    rw [ho] at h
    unfold execI at h
    simp only
    rcases wanted_guard hs' h with ⟨hw, h⟩ | ⟨hw, h⟩
    · rw [if_pos hw]
      exact .inl (opK_sound hs' h fun E' s' a' w2 hk hs2 hl2 => ⟨no w2, hk E' a' w2 E0 h0 w0 Es ws hc' hs2 (hl'.trans (hl2.toN hl'.len)) (hh.step hl2) (fun hf => by cases hf)⟩)
    · rw [if_neg (by simp [hw])]
      have hsh : (s.put o.dst U).h = s.h := by cases o.dst <;> rfl
      exact ⟨no w', h E _ w' E0 h0 w0 Es ws hc' (hs'.put _ VR.undef) (by rw [hsh]; exact hl') (by rw [hsh]; exact hh) (fun hf => by cases hf)⟩

/-- One operation alone may come up. -/
theorem RB_exec (i n : Nat) {m : Nat} {listed : Array Bool} (hm : m = n + 1) (hks : ks.contains i = true) (hr : Region.ready .any ops listed = [i]) (h : execI P ops s (RB P n0 ops ks hS Q false n (listed.setIfInBounds i true)) (ops[i]?)) : RB P n0 ops ks hS Q ok m listed s := fun E a w E0 h0 w0 Es ws hc hs hl hh _ => by
  subst hm
  refine ⟨fun h0 => (by rw [hr] at h0; cases h0), fun j hj w' hw' => ?_⟩
  have hi : i ∈ Region.ready .any ops listed := by rw [hr]; simp
  have : j = i := by rw [hr] at hj; simpa using hj
  subst this
  exact exec_sound hi hks h E a w E0 h0 w0 Es ws hc hs hl hh w' hw'

/-! #### An operation that writes elsewhere -/

def presOk (t : List Value) (hS : List Blk) (o : Oper) : Prop :=
  match o.op with
  | .store _ x _ => someK (ptrA (ev t x)) fun p => ∀ k, hS[p.block]? = some k → k.cells = []
  | .alloc _ => True
  | .box _ _ => True
  | .buildSlice _ _ _ => True
  | .makeSlice _ _ _ => True
  | .call _ => False
  | _ => True

def newOp : Op → Bool
  | .alloc _ | .box _ _ | .buildSlice _ _ _ | .makeSlice _ _ _ => true
  | _ => false

theorem mop_new {t : List Value} {h : List Blk} {op : Op} {r : Value × List Blk} (hn : newOp op = true) (hq : mop P t h op = some r) : (∃ k, r.2 = h ++ [k]) ∧ ∀ h2, ∃ r2, mop P t h2 op = some r2 := by
  unfold mop at hq
  cases op <;> simp only [newOp, Bool.false_eq_true] at hn
  case alloc T =>
    obtain ⟨z, hz, hq⟩ := bind_some' hq
    obtain ⟨cs, hcs, hq⟩ := bind_some' hq
    obtain ⟨hp, rfl⟩ := ite_some hq
    refine ⟨⟨_, rfl⟩, fun h2 => ⟨(.pointer (some ⟨h2.length, 0, none⟩), h2 ++ [⟨cs, true⟩]), ?_⟩⟩
    unfold mop
    simp only [hz, hcs, Option.bind_some]
    exact if_pos hp
  case box T x =>
    obtain ⟨cs, hcs, rfl⟩ := map_some' hq
    refine ⟨⟨_, rfl⟩, fun h2 => ⟨(.pointer (some ⟨h2.length, 0, none⟩), h2 ++ [⟨cs, true⟩]), ?_⟩⟩
    unfold mop
    simp only [hcs, Option.map_some]
  case makeSlice T l c =>
    simp only at hq
    obtain ⟨n, h1, hq⟩ := bind_some' hq
    obtain ⟨n', h2, hq⟩ := bind_some' hq
    split at hq
    · rename_i e hu
      obtain ⟨z, h3, hq⟩ := bind_some' hq
      obtain ⟨b', h4, hq⟩ := bind_some' hq
      obtain ⟨zs, h5, hq⟩ := bind_some' hq
      obtain ⟨hp, rfl⟩ := ite_some hq
      refine ⟨⟨_, rfl⟩, fun h2' => ⟨(.slice (some ⟨h2'.length, 0, none⟩) n.toNat z, h2' ++ [⟨zs, true⟩]), ?_⟩⟩
      unfold mop
      simp only [h1, h2, hu, h3, h4, h5, Option.bind_some]
      exact if_pos hp
    · cases hq
  case buildSlice T len parts =>
    simp only at hq
    split at hq
    · rename_i e hu
      obtain ⟨z, h3, hq⟩ := bind_some' hq
      obtain ⟨zs, h5, hq⟩ := bind_some' hq
      split at hq
      · rename_i hp
        obtain ⟨cs, h6, rfl⟩ := map_some' hq
        refine ⟨⟨_, rfl⟩, fun h2' => ⟨(.slice (some ⟨h2'.length, 0, none⟩) len z, h2' ++ [⟨cs, true⟩]), ?_⟩⟩
        unfold mop
        simp only [hu, h3, h5, Option.bind_some]
        rw [if_pos hp, h6]
        rfl
      · cases hq
    · cases hq

/-- All blocks but one, not ours to write. -/
def roBut (b : Nat) (h : List Blk) : List Blk := (ro h).set b ((h[b]?).getD dead)

theorem roBut_get {b c : Nat} {h : List Blk} {k : Blk} (hb : (roBut b h)[c]? = some k) : (c ≠ b ∧ ∃ k', h[c]? = some k' ∧ k.cells = k'.cells ∧ k.rw = false) ∨ (c = b ∧ h[b]? = some k) := by
  unfold roBut at hb
  rcases get_set hb with ⟨hne, hb⟩ | ⟨rfl, rfl, hl⟩
  · obtain ⟨k', h1, h2, h3⟩ := ro_get hb; exact .inl ⟨hne, k', h1, h2, h3⟩
  · rw [ro_length] at hl; exact .inr ⟨rfl, by rw [List.getElem?_eq_getElem hl]; rfl⟩
theorem roBut_length (b : Nat) (h : List Blk) : (roBut b h).length = h.length := by simp [roBut, ro_length]
theorem roBut_here {b : Nat} {h : List Blk} {k : Blk} (hb : h[b]? = some k) : (roBut b h)[b]? = some k := by
  unfold roBut
  rw [List.getElem?_set, if_pos rfl, if_pos (by rw [ro_length]; exact (List.getElem?_eq_some_iff.1 hb).1), hb]; rfl

theorem HR.roBut {E : Emb} {h : List Blk} {w : World} (hr : HR E h w) (b : Nat) : HR E (roBut b h) w where
  lt c k hc := by rcases roBut_get hc with ⟨_, k', h1, _⟩ | ⟨rfl, h1⟩ <;> exact hr.lt _ _ h1
  cell c k i x hc hx := by
    rw [roBut_length]
    rcases roBut_get hc with ⟨_, k', h1, h2, _⟩ | ⟨rfl, h1⟩
    · rw [h2] at hx; exact hr.cell c k' i x h1 hx
    · exact hr.cell c k i x h1 hx
  room c k hc := by
    rcases roBut_get hc with ⟨_, k', h1, h2, _⟩ | ⟨rfl, h1⟩
    · rw [h2]; exact hr.room c k' h1
    · exact hr.room c k h1
  own c k hc hk := by
    rcases roBut_get hc with ⟨_, k', h1, _, h2⟩ | ⟨rfl, h1⟩
    · rw [h2] at hk; cases hk
    · exact hr.own c k h1 hk
  sep c k hc hk c' k' hc' hne hlive := by
    rcases roBut_get hc with ⟨_, k1, h1, _, h2⟩ | ⟨rfl, h1⟩
    · rw [h2] at hk; cases hk
    · rcases roBut_get hc' with ⟨_, k1, h3, h4, h5⟩ | ⟨rfl, h3⟩
      · exact hr.sep c k h1 hk c' k1 h3 hne (hlive.elim (fun h => by rw [h5] at h; cases h) (fun h => .inr (by rw [← h4]; exact h)))
      · exact absurd rfl hne
  door := hr.door
  away c k hc hk := by
    rcases roBut_get hc with ⟨_, k', h1, _, h2⟩ | ⟨rfl, h1⟩
    · rw [h2] at hk; cases hk
    · exact hr.away c k h1 hk

theorem opP_sound {o : Oper} {E : Emb} {a : Act} {w : World} {Es : Emb} {ws : World} (hs : SR E s a w) (hh : Held Es hS ws E s.h.length) (hsb : SB Es hS ws w) (hal : Alive hS s.h) (hp : presOk s.t hS o)
    {K : AS → Prop} (h : opK P o s K) {next : Act → World → Prop} {Q' : Exit → Act → World → Prop}
    (hn : ∀ E' s' a' w', K s' → SR E' s' a' w' → Link E s.h w E' s'.h w' → SB Es hS ws w' → Alive hS s'.h → next a' w') : o.wp P a w next Q' := by
  have hq : ∀ op, o.op = op → someK (qop P s.t s.h op) (fun v => K (s.put o.dst v)) → o.wp P a w next Q' := fun op ho h => by
    cases hq : qop P s.t s.h op with
    | none => rw [hq] at h; exact h.elim
    | some v =>
      rw [hq] at h
      obtain ⟨v', hv, hrun⟩ := qop_sound (o := o) hs.mem hs.tmps (ho ▸ hq)
      unfold Oper.wp
      rw [hrun w (fun _ _ _ _ _ => rfl), Oper.upon_value]
      have hsh : (s.put o.dst v).h = s.h := by cases o.dst <;> rfl
      exact hn E _ _ w h (hs.put _ hv) (by rw [hsh]; exact Link.refl ..) hsb (by rw [hsh]; exact hal)
  have hm : ∀ op hm, o.op = op → hm.length = s.h.length → HR E hm w → (∃ r, mop P s.t hm op = some r) →
      (∀ (b : Nat) (k : Blk) (i : Nat), hS[b]? = some k → i < k.cells.length → ∀ (c : Nat) (kc : Blk), hm[c]? = some kc → kc.rw = true → E.loc c ≠ E.loc b) →
      (∀ r, mop P s.t s.h op = some r → Alive hS r.2) →
      someK (mop P s.t s.h op) (fun r => K (AS.put ⟨s.t, r.2⟩ o.dst r.1)) → o.wp P a w next Q' := fun op hm ho hlen hrm ⟨r2, hr2⟩ hfr hal' h => by
    cases hq : mop P s.t s.h op with
    | none => rw [hq] at h; exact h.elim
    | some r =>
      have hal2 := hal' r hq
      obtain ⟨v, h'⟩ := r
      rw [hq] at h
      obtain ⟨v', w', hrun, E', hv, hr, hl⟩ := mop_sound (o := o) hs.mem hs.tmps (ho ▸ hq)
      obtain ⟨v2, w2, hrun2, E2, _, _, hl2⟩ := mop_sound (o := o) hrm (by rw [hlen]; exact hs.tmps) (show mop P s.t hm o.op = some (r2.1, r2.2) by rw [ho]; exact hr2)
      have hww : w2 = w' := by
        rcases hrun with h1 | ⟨h1, _⟩ <;> rcases hrun2 with h2 | ⟨h2, _⟩ <;> rw [h1] at h2 <;> cases h2 <;> rfl
      subst hww
      have hsb2 : SB Es hS ws w2 := by
        refine ⟨fun b k i hb hi => ?_, Nat.le_trans hsb.2.1 hl.size, hr.door⟩
        obtain ⟨y, hy, _⟩ := hh.cell hb (List.getElem?_eq_getElem hi)
        have h1 := hsb.1.cell hb hi hy
        have hbl : b < hS.length := (List.getElem?_eq_some_iff.1 hb).1
        have h2 := hl2.frame (Es.loc b) (World.block_lt_of_cell? w _ h1) fun c kc hc hkc => by
          have := hfr b k i hb hi c kc hc hkc
          rwa [hh.loc b hbl] at this
        rw [World.cell?_of_block h2, h1, hy]
      unfold Oper.wp
      have hsh : ∀ v0, (AS.put ⟨s.t, h'⟩ o.dst v0).h = h' := fun v0 => by cases o.dst <;> rfl
      have hgo := hn E' _ (a.put o.dst v') w2 h ((hs.step hr hl).put _ hv) (by rw [hsh]; exact hl) hsb2 (by rw [hsh]; exact hal2)
      rcases hrun with hrun | ⟨hrun, rfl⟩
      · rw [hrun, Oper.upon_value]; exact hgo
      · rw [hrun, Oper.upon_skip]; exact hgo
  have hnew : ∀ op, o.op = op → newOp op = true → someK (mop P s.t s.h op) (fun r => K (AS.put ⟨s.t, r.2⟩ o.dst r.1)) → o.wp P a w next Q' := fun op ho hno h => by
    cases hq : mop P s.t s.h op with
    | none => rw [hq] at h; exact h.elim
    | some r =>
      refine hm op (ro s.h) ho (ro_length _) hs.mem.ro ((mop_new hno hq).2 _) (fun b k i hb hi c kc hc hkc => ?_) (fun r' hr' => ?_) (hq ▸ h)
      · obtain ⟨_, _, _, h3⟩ := ro_get hc; rw [h3] at hkc; cases hkc
      · obtain ⟨k, hk⟩ := (mop_new hno hr').1
        rw [hk]
        exact fun b k hb hk => by
          obtain ⟨k', h1, h2⟩ := hal b k hb hk
          exact ⟨k', by rw [List.getElem?_append_left (List.getElem?_eq_some_iff.1 h1).1]; exact h1, h2⟩
  unfold opK at h
  unfold presOk at hp
  split at h
  · rename_i c ho
    rw [ho] at hp; exact hp.elim
  · rename_i ho; exact hnew _ ho rfl h
  · rename_i ho; exact hnew _ ho rfl h
  · rename_i T x y ho
    rw [ho] at hp
    simp only at hp
    cases hpx : ptrA (ev s.t x) with
    | none => rw [hpx] at hp; exact hp.elim
    | some p =>
      rw [hpx] at hp
      have hp' : ∀ k, hS[p.block]? = some k → k.cells = [] := hp
      cases hq : mop P s.t s.h (.store T x y) with
      | none => rw [hq] at h; exact h.elim
      | some r =>
        have hq' := hq
        unfold mop at hq'
        simp only [hpx, Option.bind_some] at hq'
        obtain ⟨h1, hst, rfl⟩ := map_some' hq'
        have hst' := hst
        unfold storeA at hst'
        obtain ⟨k, hk, hst'⟩ := bind_some' hst'
        obtain ⟨cs, hcs, hst'⟩ := bind_some' hst'
        obtain ⟨n, hn', hst'⟩ := bind_some' hst'
        obtain ⟨hc, rfl⟩ := ite_some hst'
        refine hm _ (roBut p.block s.h) ho (roBut_length _ _) (hs.mem.roBut _) ?_ (fun b kb i hb hi c kc hc' hkc => ?_) (fun r' hr' => ?_) (hq ▸ h)
        · refine ⟨(J, (roBut p.block s.h).set p.block ⟨splice k.cells p.off cs, true⟩), ?_⟩
          unfold mop storeA
          simp only [hpx, Option.bind_some, roBut_here hk, hcs, hn', Option.map_eq_some_iff]
          exact ⟨_, if_pos hc, rfl⟩
        · rcases roBut_get hc' with ⟨_, k', _, _, h3⟩ | ⟨rfl, h3⟩
          · rw [h3] at hkc; cases hkc
          · have hne : kb.cells ≠ [] := fun e => by rw [e] at hi; simp at hi
            obtain ⟨k2, h4, h5⟩ := hal b kb hb hne
            have hbc : b ≠ p.block := fun e => hne (hp' kb (e ▸ hb))
            exact (hs.mem.sep _ kc h3 hkc b k2 h4 hbc (.inr h5)).symm
        · rw [hq] at hr'
          cases hr'
          intro b kb hb hne
          obtain ⟨k2, h4, h5⟩ := hal b kb hb hne
          have hbc : p.block ≠ b := fun e => hne (hp' kb (e ▸ hb))
          exact ⟨k2, by simp only; rw [List.getElem?_set, if_neg hbc]; exact h4, h5⟩
  · rename_i ho; exact hnew _ ho rfl h
  · rename_i ho; exact hnew _ ho rfl h
  · exact hq _ rfl h

def presI (s : AS) (hS : List Blk) : Option Oper → Prop
  | some o => presOk s.t hS o
  | none => False

theorem keep_sound {i : Nat} {listed : Array Bool} {n : Nat} (hi : i ∈ Region.ready .any ops listed) (hp : presI s hS (ops[i]?)) (h : execI P ops s (RB P n0 ops ks hS Q true n (listed.setIfInBounds i true)) (ops[i]?))
    (E : Emb) (a : Act) (w : World) (E0 : Emb) (h0 : List Blk) (w0 : World) (Es : Emb) (ws : World) (hc : Closed ops listed) (hs : SR E s a w) (hl : LinkN n0 E0 h0 w0 E s.h w) (hh : Held Es hS ws E s.h.length) (hk : true = true → SB Es hS ws w ∧ Alive hS s.h) (w' : World) (hw' : Bel w w') :
    wpOp P ops (PostN n0 Q E0 h0 w0) i (fun a2 w2 => ((fun j => !ks.contains j) i = true → SB Es hS ws w' → SB Es hS ws w2) ∧ wpAnyB P ops (PostN n0 Q E0 h0 w0) (SB Es hS ws) (fun j => !ks.contains j) n (listed.setIfInBounds i true) a2 w2) a w' := by
  have hc' := hc.set hi
  have hs' := hs.bel hw'
  have hl' := hl.trans ((Link.bel (E := E) (h := s.h) hw').toN hl.len)
  obtain ⟨hk1, hk2⟩ := hk rfl
  have hk1' := hk1.bel hh hw'
  unfold wpOp
  cases ho : ops[i]? with
  | none => rw [ho] at h; exact h.elim
  | some o =>
    rw [ho] at h hp
    unfold execI at h
    simp only
    rcases wanted_guard hs' h with ⟨hw, h⟩ | ⟨hw, h⟩
    · rw [if_pos hw]
      exact .inl (opP_sound hs' hh hk1' hk2 hp h fun E' s' a' w2 hK hs2 hl2 hsb hal => ⟨fun _ _ => hsb, hK E' a' w2 E0 h0 w0 Es ws hc' hs2 (hl'.trans (hl2.toN hl'.len)) (hh.step hl2) (fun _ => ⟨hsb, hal⟩)⟩)
    · rw [if_neg (by simp [hw])]
      have hsh : (s.put o.dst U).h = s.h := by cases o.dst <;> rfl
      exact ⟨fun _ h => h, h E _ w' E0 h0 w0 Es ws hc' (hs'.put _ VR.undef) (by rw [hsh]; exact hl') (by rw [hsh]; exact hh) (fun _ => ⟨hk1', by rw [hsh]; exact hk2⟩)⟩

/-- One operation alone may come up, and it keeps what is looked at. -/
theorem RB_keep (i n : Nat) {m : Nat} {listed : Array Bool} (hm : m = n + 1) (hr : Region.ready .any ops listed = [i]) (hp : presI s hS (ops[i]?)) (h : execI P ops s (RB P n0 ops ks hS Q true n (listed.setIfInBounds i true)) (ops[i]?)) : RB P n0 ops ks hS Q true m listed s := fun E a w E0 h0 w0 Es ws hc hs hl hh hk => by
  subst hm
  refine ⟨fun h0 => (by rw [hr] at h0; cases h0), fun j hj w' hw' => ?_⟩
  have hi : i ∈ Region.ready .any ops listed := by rw [hr]; simp
  have : j = i := by rw [hr] at hj; simpa using hj
  subst this
  exact keep_sound hi hp h E a w E0 h0 w0 Es ws hc hs hl hh hk w' hw'

/-- Two operations may come up, and both keep what is looked at. -/
theorem RB_twoK (i j n : Nat) {m : Nat} {listed : Array Bool} (hm : m = n + 1) (hr : Region.ready .any ops listed = [i, j]) (hp : presI s hS (ops[i]?)) (hp' : presI s hS (ops[j]?)) (h : execI P ops s (RB P n0 ops ks hS Q true n (listed.setIfInBounds i true)) (ops[i]?))
    (h' : execI P ops s (RB P n0 ops ks hS Q true n (listed.setIfInBounds j true)) (ops[j]?)) : RB P n0 ops ks hS Q true m listed s := fun E a w E0 h0 w0 Es ws hc hs hl hh hk => by
  subst hm
  refine ⟨fun h0 => (by rw [hr] at h0; cases h0), fun k hk' w' hw' => ?_⟩
  have hi : i ∈ Region.ready .any ops listed := by rw [hr]; simp
  have hj : j ∈ Region.ready .any ops listed := by rw [hr]; simp
  rw [hr] at hk'
  simp at hk'
  rcases hk' with rfl | rfl
  · exact keep_sound hi hp h E a w E0 h0 w0 Es ws hc hs hl hh hk w' hw'
  · exact keep_sound hj hp' h' E a w E0 h0 w0 Es ws hc hs hl hh hk w' hw'

/-- Two operations may come up. -/
theorem RB_two (i j n : Nat) {m : Nat} {listed : Array Bool} (hm : m = n + 1) (hki : ks.contains i = true) (hkj : ks.contains j = true) (hr : Region.ready .any ops listed = [i, j]) (h : execI P ops s (RB P n0 ops ks hS Q false n (listed.setIfInBounds i true)) (ops[i]?))
    (h' : execI P ops s (RB P n0 ops ks hS Q false n (listed.setIfInBounds j true)) (ops[j]?)) : RB P n0 ops ks hS Q ok m listed s := fun E a w E0 h0 w0 Es ws hc hs hl hh _ => by
  subst hm
  refine ⟨fun h0 => (by rw [hr] at h0; cases h0), fun k hk w' hw' => ?_⟩
  have hi : i ∈ Region.ready .any ops listed := by rw [hr]; simp
  have hj : j ∈ Region.ready .any ops listed := by rw [hr]; simp
  rw [hr] at hk
  simp at hk
  rcases hk with rfl | rfl
  · exact exec_sound hi hki h E a w E0 h0 w0 Es ws hc hs hl hh w' hw'
  · exact exec_sound hj hkj h' E a w E0 h0 w0 Es ws hc hs hl hh w' hw'

end

section
variable {P : Program} {ops : Array Oper} {s : AS}
def atT (P : Program) (ops : Array Oper) (s : AS) (run skip : Oper → Prop) : Option Oper → Prop
  | some o => guardK ops o s (run o) (skip o)
  | none => False
@[go_sem] theorem takeI_nil {deep : Bool} {hS : List Blk} {K : AS → Prop} : takeI P ops deep hS K [] s = K s := nr rfl
@[go_sem] theorem takeI_deep {hS : List Blk} {K : AS → Prop} {i : Nat} {is : List Nat} : takeI P ops true hS K (i :: is) s = atT P ops s (fun o => opB P o hS s (takeI P ops true hS K is)) (fun o => takeI P ops true hS K is (s.put o.dst U)) (ops[i]?) := by
  show (match ops[i]? with | some o => _ | none => _) = _
  cases ops[i]? with
  | none => rfl
  | some o => simp only [atT, Bool.true_eq_false, false_implies, true_and]
@[go_sem] theorem takeI_flat {hS : List Blk} {K : AS → Prop} {i : Nat} {is : List Nat} : takeI P ops false hS K (i :: is) s = atT P ops s (fun o => isFCall o = false ∧ opB P o hS s (takeI P ops false hS K is)) (fun o => takeI P ops false hS K is (s.put o.dst U)) (ops[i]?) := by
  show (match ops[i]? with | some o => _ | none => _) = _
  cases ops[i]? with
  | none => rfl
  | some o => simp only [atT, true_implies]
@[go_sem] theorem deepM_t (hS : List Blk) : deepM true hS = hS := nr rfl
@[go_sem] theorem deepM_f (hS : List Blk) : deepM false hS = [] := nr rfl
section
variable {d : Option Tmp} {op : Op} {ty : TypeId} {pos : String} {af : Array Edge} {K : AS → Prop} {run skip : Oper → Prop} {g : Option (Nat × Bool)} {hS : List Blk}
@[go_sem] theorem atT_none : atT P ops s run skip (some ⟨d, op, ty, pos, af, none⟩) = run ⟨d, op, ty, pos, af, none⟩ := nr rfl
@[go_sem] theorem atT_guard {j : Nat} {want : Bool} : atT P ops s run skip (some ⟨d, op, ty, pos, af, some (j, want)⟩) = gK (yieldA ops s.t j) want (run ⟨d, op, ty, pos, af, some (j, want)⟩) (skip ⟨d, op, ty, pos, af, some (j, want)⟩) := nr rfl
@[go_sem] theorem execI_guard {j : Nat} {want : Bool} : execI P ops s K (some ⟨d, op, ty, pos, af, some (j, want)⟩) = gK (yieldA ops s.t j) want (opK P ⟨d, op, ty, pos, af, some (j, want)⟩ s K) (K (s.put d U)) := nr rfl
@[go_sem] theorem execI_none : execI P ops s K (some ⟨d, op, ty, pos, af, none⟩) = opK P ⟨d, op, ty, pos, af, none⟩ s K := nr rfl
@[go_sem] theorem opB_flat {h : List Blk} {t : List Value} {o : Oper} (hn : isFCall o = false) : opB P o hS ⟨t, h⟩ K = opQ P o ⟨t, hS⟩ (fun s' => K ⟨s'.t, h⟩) := by
  have hput : ∀ (d : Option Tmp) (v : Value), (⟨(AS.put ⟨t, hS⟩ d v).t, h⟩ : AS) = AS.put ⟨t, h⟩ d v := fun d v => by cases d <;> rfl
  obtain ⟨dst, op, ty, pos, after, guard⟩ := o
  unfold isFCall at hn
  unfold opB opQ
  simp only [hput]
  cases op <;> try rfl
  rename_i c
  cases hc : c.callee <;> simp [hc] at hn ⊢
@[go_sem] theorem flat_and {o : Oper} {p : Prop} (hn : isFCall o = false) : (isFCall o = false ∧ p) = p := by simp [hn]

def wfArgs (n : Nat) : List Value → Prop
  | [] => True
  | a :: l => wfV n a ∧ wfArgs n l
theorem wfArgs_mem {n : Nat} : ∀ {l : List Value}, wfArgs n l → ∀ x ∈ l, wfV n x
  | [], _, x, hx => by cases hx
  | a :: l, h, x, hx => by
    rcases List.mem_cons.1 hx with rfl | hx
    · exact h.1
    · exact wfArgs_mem h.2 x hx
/-- A call that looks at the memory hS alone. -/
def callB (P : Program) (f : FuncId) (args : List Value) (hS : List Blk) (K : Value → Prop) : Prop := ∃ v h', AC P f args (ro hS) v h' ∧ (∀ x ∈ args, wfV hS.length x) ∧ plainV v = true ∧ K v
@[congr] theorem callB_congr {P : Program} {f : FuncId} {args args' : List Value} {h h' : List Blk} {K : Value → Prop} (ha : args = args') (hh : h = h') : callB P f args h K = callB P f args' h' K := by rw [ha, hh]
theorem callB_intro {f : FuncId} {args : List Value} {h : List Blk} {K : Value → Prop} {v : Value} {h' : List Blk} (hc : AC P f args (ro h) v h') (hw : wfArgs h.length args) (hp : plainV v = true) (hk : K v) : callB P f args h K := ⟨v, h', hc, wfArgs_mem hw, hp, hk⟩
/-- What a call's contract owes besides: that its values are of this memory, and that its result is known. -/
structure WP (w : Prop) (v : Value) : Prop where
  wf : w
  pl : plainV v = true
theorem callB_i {f : FuncId} {args : List Value} {h : List Blk} {K : Value → Prop} {v : Value} {h' : List Blk} (hc : AC P f args (ro h) v h') (hw : WP (wfArgs h.length args) v) (hk : K v) : callB P f args h K := callB_intro hc hw.1 hw.2 hk
theorem callQ_i {f : FuncId} {args : List Value} {h : List Blk} {K : Value → Prop} {v : Value} {h' : List Blk} (hc : AC P f args (ro h) v h') (hw : WP True v) (hk : K v) : callQ P f args h K := call_q hc hw.2 hk
@[go_sem] theorem opB_call1 {f : FuncId} {ts : Array TypeId} {a : Operand} : opB P ⟨d, .call ⟨.value (.func f), #[a], ts⟩, ty, pos, af, g⟩ hS s K = callB P f [ev s.t a] hS (contQ K s d) := nr rfl
@[go_sem] theorem opB_call2 {f : FuncId} {ts : Array TypeId} {a b : Operand} : opB P ⟨d, .call ⟨.value (.func f), #[a, b], ts⟩, ty, pos, af, g⟩ hS s K = callB P f [ev s.t a, ev s.t b] hS (contQ K s d) := nr rfl
@[go_sem] theorem opB_call3 {f : FuncId} {ts : Array TypeId} {a b c : Operand} : opB P ⟨d, .call ⟨.value (.func f), #[a, b, c], ts⟩, ty, pos, af, g⟩ hS s K = callB P f [ev s.t a, ev s.t b, ev s.t c] hS (contQ K s d) := nr rfl
@[go_sem] theorem opB_call4 {f : FuncId} {ts : Array TypeId} {a b c e : Operand} : opB P ⟨d, .call ⟨.value (.func f), #[a, b, c, e], ts⟩, ty, pos, af, g⟩ hS s K = callB P f [ev s.t a, ev s.t b, ev s.t c, ev s.t e] hS (contQ K s d) := nr rfl
@[go_sem] theorem opB_call5 {f : FuncId} {ts : Array TypeId} {a b c e e1 : Operand} : opB P ⟨d, .call ⟨.value (.func f), #[a, b, c, e, e1], ts⟩, ty, pos, af, g⟩ hS s K = callB P f [ev s.t a, ev s.t b, ev s.t c, ev s.t e, ev s.t e1] hS (contQ K s d) := nr rfl
@[go_sem] theorem opB_call7 {f : FuncId} {ts : Array TypeId} {a b c e e1 e2 e3 : Operand} : opB P ⟨d, .call ⟨.value (.func f), #[a, b, c, e, e1, e2, e3], ts⟩, ty, pos, af, g⟩ hS s K = callB P f [ev s.t a, ev s.t b, ev s.t c, ev s.t e, ev s.t e1, ev s.t e2, ev s.t e3] hS (contQ K s d) := nr rfl
@[go_sem] theorem opK_call5 {f : FuncId} {ts : Array TypeId} {a b c e e1 : Operand} : opK P ⟨d, .call ⟨.value (.func f), #[a, b, c, e, e1], ts⟩, ty, pos, af, g⟩ s K = callK P f [ev s.t a, ev s.t b, ev s.t c, ev s.t e, ev s.t e1] s.h (contK K s.t d) := nr rfl
@[go_sem] theorem opK_call7 {f : FuncId} {ts : Array TypeId} {a b c e e1 e2 e3 : Operand} : opK P ⟨d, .call ⟨.value (.func f), #[a, b, c, e, e1, e2, e3], ts⟩, ty, pos, af, g⟩ s K = callK P f [ev s.t a, ev s.t b, ev s.t c, ev s.t e, ev s.t e1, ev s.t e2, ev s.t e3] s.h (contK K s.t d) := nr rfl
@[go_sem] theorem presI_some {o : Oper} : presI s hS (some o) = presOk s.t hS o := nr rfl
@[go_sem] theorem pres_alloc {t : List Value} {T : TypeId} : presOk t hS ⟨d, .alloc T, ty, pos, af, g⟩ = True := nr rfl
@[go_sem] theorem pres_box {t : List Value} {T : TypeId} {x : Operand} : presOk t hS ⟨d, .box T x, ty, pos, af, g⟩ = True := nr rfl
@[go_sem] theorem pres_bs {t : List Value} {T : TypeId} {n : Nat} {x : Array (Nat × Operand)} : presOk t hS ⟨d, .buildSlice T n x, ty, pos, af, g⟩ = True := nr rfl
@[go_sem] theorem pres_ms {t : List Value} {T : TypeId} {x y : Operand} : presOk t hS ⟨d, .makeSlice T x y, ty, pos, af, g⟩ = True := nr rfl
def deadAt : Option Blk → Prop
  | some k => k.cells = []
  | none => True
@[go_sem] theorem deadAt_dead : deadAt (some dead) = True := by simp [deadAt, dead]
@[go_sem] theorem deadAt_none : deadAt none = True := nr rfl
def presS (hS : List Blk) : Value → Prop
  | .pointer (some p) => deadAt hS[p.block]?
  | _ => False
@[go_sem] theorem presS_pt (b o : Nat) : presS hS (pt b o) = deadAt hS[b]? := nr rfl
@[go_sem] theorem pres_store {t : List Value} {T : TypeId} {x y : Operand} : presOk t hS ⟨d, .store T x y, ty, pos, af, g⟩ = presS hS (ev t x) := by
  show someK (ptrA (ev t x)) (fun p => ∀ k, hS[p.block]? = some k → k.cells = []) = _
  generalize ev t x = v
  cases v with
  | pointer a =>
    cases a with
    | none => rfl
    | some p =>
      show (∀ k, hS[p.block]? = some k → k.cells = []) = deadAt hS[p.block]?
      cases hS[p.block]? with
      | none => simp [deadAt]
      | some k => simp [deadAt]
  | _ => rfl
end
theorem arr_get {α : Type} (l : List α) (i : Nat) : l.toArray[i]? = l[i]? := by simp
attribute [go_sem] arr_get
@[congr] theorem takeI_congr {P : Program} {ops : Array Oper} {deep : Bool} {hS : List Blk} {K : AS → Prop} {l : List Nat} {s s' : AS} (h : s = s') : takeI P ops deep hS K l s = takeI P ops deep hS K l s' := by rw [h]
@[congr] theorem atT_congr {P : Program} {ops : Array Oper} {s : AS} {run skip : Oper → Prop} {o o' : Option Oper} (h : o = o') : atT P ops s run skip o = atT P ops s run skip o' := by rw [h]
@[congr] theorem execI_congr {P : Program} {ops : Array Oper} {s s' : AS} {K : AS → Prop} {o o' : Option Oper} (h : o = o') (hs : s = s') : execI P ops s K o = execI P ops s' K o' := by rw [h, hs]
end

/-- Some of the newest blocks are not looked at. -/
def patD : List Blk → List Nat → List Blk
  | t, [] => t
  | t, i :: r => patD (t.set i dead) r
theorem SubM.patD {H L : List Blk} : ∀ (r : List Nat) (L' : List Blk), SubM (H ++ L') (H ++ L) → SubM (H ++ Abs.patD L' r) (H ++ L)
  | [], _, h => h
  | i :: r, L', h => SubM.patD r (L'.set i dead) (by
    have := h.set (H.length + i)
    rwa [List.set_append_right _ _ (by omega), show H.length + i - H.length = i by omega] at this)
theorem WA_rbD {P : Program} {n0 : Nat} {ops : Array Oper} {Q : Exit → AS → Prop} {t : List Value} {H L : List Blk} {id : Nat} (ks ds : List Nat) (hm : P.follows .mixedOrders = true) (h : RB P n0 ops ks (H ++ patD L ds) Q true ops.size (Array.replicate ops.size false) ⟨t, H ++ L⟩) : WA P n0 (.region id ops true) Q ⟨t, H ++ L⟩ :=
  WA_rb ks (SubM.patD ds L (SubM.refl _)) hm h
@[go_sem] theorem patD_nil (t : List Blk) : patD t [] = t := nr rfl
@[go_sem] theorem patD_cons (t : List Blk) (i : Nat) (r : List Nat) : patD t (i :: r) = patD (t.set i dead) r := nr rfl

/-! ### Loops told by what they change -/

def patT : List Value → List (Nat × Value) → List Value
  | t, [] => t
  | t, p :: r => patT (t.set p.1 p.2) r
def patL : List Blk → List (Nat × Blk) → List Blk
  | t, [] => t
  | t, p :: r => patL (t.set p.1 p.2) r
theorem patT_nil (t : List Value) : patT t [] = t := rfl
theorem patT_cons (t : List Value) (i : Nat) (v : Value) (r : List (Nat × Value)) : patT t ((i, v) :: r) = patT (t.set i v) r := rfl
theorem patL_nil (t : List Blk) : patL t [] = t := rfl
theorem patL_cons (t : List Blk) (i : Nat) (v : Blk) (r : List (Nat × Blk)) : patL t ((i, v) :: r) = patL (t.set i v) r := rfl

section
variable {P : Program} {Q : Exit → AS → Prop} {n0 : Nat}

theorem WA_forP {c : Code} {t : List Value} {H L : List Blk} (ps : Nat → List (Nat × Value)) (bs : Nat → List (Nat × Blk)) (n : Nat)
    (hs : Drop n0 ⟨t, H ++ L⟩ ⟨patT t (ps 0), H ++ patL L (bs 0)⟩)
    (step : ∀ k, k < n → WA P n0 c (Then (fun s' => Drop n0 s' ⟨patT t (ps (k + 1)), H ++ patL L (bs (k + 1))⟩) Q) ⟨patT t (ps k), H ++ patL L (bs k)⟩)
    (done : WA P n0 c (Then (fun _ => False) Q) ⟨patT t (ps n), H ++ patL L (bs n)⟩) : WA P n0 (.loop c) Q ⟨t, H ++ L⟩ :=
  WA_forD (s := ⟨t, H ++ L⟩) (fun k => ⟨patT t (ps k), H ++ patL L (bs k)⟩) n hs step done

theorem WA_forH {c : Code} {t : List Value} {h : List Blk} (ps : Nat → List (Nat × Value)) (hp : Nat → List Blk) (n : Nat)
    (hs : Drop n0 ⟨t, h⟩ ⟨patT t (ps 0), hp 0⟩)
    (step : ∀ k, k < n → WA P n0 c (Then (fun s' => Drop n0 s' ⟨patT t (ps (k + 1)), hp (k + 1)⟩) Q) ⟨patT t (ps k), hp k⟩)
    (done : WA P n0 c (Then (fun _ => False) Q) ⟨patT t (ps n), hp n⟩) : WA P n0 (.loop c) Q ⟨t, h⟩ :=
  WA_forD (s := ⟨t, h⟩) (fun k => ⟨patT t (ps k), hp k⟩) n hs step done
end
/-! ### Whole numbers that are natural ones -/
@[go_sem] theorem cast_add (a b : Nat) : (a : Int) + (b : Int) = ((a + b : Nat) : Int) := nr (Int.natCast_add a b).symm
@[go_sem] theorem cast_add_lit (a n : Nat) : (a : Int) + (no_index (OfNat.ofNat n)) = ((a + OfNat.ofNat n : Nat) : Int) := nr (Int.natCast_add a n).symm
@[go_sem] theorem lit_add_cast (a n : Nat) : (no_index (OfNat.ofNat n : Int)) + (a : Int) = ((OfNat.ofNat n + a : Nat) : Int) := nr (Int.natCast_add n a).symm
@[go_sem] theorem cast_mul (a b : Nat) : (a : Int) * (b : Int) = ((a * b : Nat) : Int) := nr (Int.natCast_mul a b).symm
@[go_sem] theorem cast_mul_lit (a n : Nat) : (a : Int) * (no_index (OfNat.ofNat n)) = ((a * OfNat.ofNat n : Nat) : Int) := nr (Int.natCast_mul a n).symm
@[go_sem] theorem lit_mul_cast (a n : Nat) : (no_index (OfNat.ofNat n : Int)) * (a : Int) = ((OfNat.ofNat n * a : Nat) : Int) := nr (Int.natCast_mul n a).symm

@[go_sem] theorem cast_lit (n : Nat) : ((no_index (OfNat.ofNat n : Nat)) : Int) = OfNat.ofNat n := nr rfl
@[go_sem] theorem toNat_lit (n : Nat) : (no_index (OfNat.ofNat n : Int)).toNat = OfNat.ofNat n := nr rfl
@[go_sem] theorem toNat_cast (n : Nat) : ((n : Nat) : Int).toNat = n := nr rfl
@[go_sem] theorem map_nil' {α β : Type} (f : α → β) : ([] : List α).map f = [] := nr rfl
@[go_sem] theorem map_cons' {α β : Type} (f : α → β) (a : α) (l : List α) : (a :: l).map f = f a :: l.map f := nr rfl
@[go_sem] theorem splice_zero (x y : Value) (l : List Value) : splice (x :: l) 0 [y] = y :: l := nr (by simp [splice])
@[go_sem] theorem splice_succ (x y : Value) (l : List Value) (i : Nat) : splice (x :: l) (i + 1) [y] = x :: splice l i [y] := nr (by simp [splice, Nat.add_right_comm])
attribute [go_sem] Nat.sub_zero Int.sub_zero Int.sub_self

attribute [go_sem] Bs_sub_all Is_sub_all Vs_sub_all
attribute [go_sem low] Bs_sub Is_sub Vs_sub

theorem Final_full {h0 h' : List Blk} {t : List Value} {v : Value} (hn : h0.length ≤ h'.length) : Final h0 ⟨t, h'⟩ v h' := ⟨hn, [], (List.append_nil _).symm, .inl rfl⟩
/-- A function that leaves more memory than there was. -/
theorem ret_full {P : Program} {rs : List ResultVar} {h0 h' : List Blk} {t : List Value} {v : Value} {e : Exit} (he : e = .normal ∨ e = .ret) (hn : h0.length ≤ h'.length) (hr : aresults P rs ⟨t, h'⟩ = some v) : Ret P rs h0 v h' e ⟨t, h'⟩ := ⟨he, hr, Final_full hn⟩

@[go_sem] theorem heap_assoc (H L M : List Blk) : (H ++ L) ++ M = H ++ (L ++ M) := nr (List.append_assoc ..)
@[go_sem] theorem blk_cons_app (x : Blk) (L M : List Blk) : (x :: L) ++ M = x :: (L ++ M) := nr rfl
@[go_sem] theorem blk_nil_app (M : List Blk) : ([] : List Blk) ++ M = M := nr rfl
@[go_sem] theorem len_assoc (l : List Blk) (a b : Nat) : l.length + a + b = l.length + (a + b) := nr (Nat.add_assoc ..)

@[go_sem high] theorem pickA_t (x y : Value) : pickA (.bool true) x y = some x := nr rfl
@[go_sem high] theorem pickA_f (x y : Value) : pickA (.bool false) x y = some y := nr rfl
@[go_sem high] theorem list_get_8 (a b c d e f g h : Value) (l : List Value) (i : Nat) : (a :: b :: c :: d :: e :: f :: g :: h :: l)[i + 8]? = l[i]? := nr (by simp)
@[go_sem high] theorem list_set_8 (a b c d e f g h y : Value) (l : List Value) (i : Nat) : (a :: b :: c :: d :: e :: f :: g :: h :: l).set (i + 8) y = a :: b :: c :: d :: e :: f :: g :: h :: l.set i y := nr rfl

def yT (t : List Value) (d : Nat) : Option (Option Bool) := (t[d]?).bind boolG
theorem yieldA_at (j d : Nat) {ops : Array Oper} {t : List Value} (h : ((ops[j]?).bind (·.dst)) = some d) : yieldA ops t j = yT t d := by unfold yieldA; rw [h]; rfl
@[go_sem] theorem yT_eq (t : List Value) (d : Nat) : yT t d = (t[d]?).bind boolG := nr rfl
@[congr] theorem yieldA_congr {ops : Array Oper} {t t' : List Value} {j : Nat} (h : t = t') : yieldA ops t j = yieldA ops t' j := by rw [h]

theorem upd_upd {α : Type} (f : Nat → α) (i : Nat) (x y : α) : upd (upd f i x) i y = upd f i y := by
  funext j; unfold upd; split <;> rfl
end Go.Abs
