/- The abstract machine, part U: calls that make memory and write none, in regions that draw their order. Generic: no program in sight. -/
import Derived.Test.YtalbdgkbinndlaaDoorAbsS
namespace Go.Abs
set_option linter.unusedSimpArgs false
set_option linter.unusedVariables false
set_option maxRecDepth 20000
set_option maxHeartbeats 1000000

def newL (L : List Blk) : Bool := L.all fun k => k.rw || k.cells.isEmpty
theorem newL_get {L : List Blk} (h : newL L = true) {i : Nat} {k : Blk} (hk : L[i]? = some k) : k.rw = true ∨ k.cells = [] := by
  have := List.all_eq_true.1 h k (List.mem_of_getElem? hk)
  simpa using this

/-- A contract over memory that is not to be written holds over the same memory that may be; and nothing of what lay there turns. -/
theorem AC_add {P : Program} {f : FuncId} {args : List Value} {h L : List Blk} {v : Value} (hc : AC P f args (ro h) v (ro h ++ L)) (hL : newL L = true) {E : Emb} {w : World} {args' : Array Value} (hr : HR E h w) (ha : P2 (VR E h.length) args args'.toList) :
    Calls P f args' w (fun e w' => ∃ E' v', e = .returned v' ∧ VR E' (h ++ L).length v v' ∧ HR E' (h ++ L) w' ∧ Link E h w E' (h ++ L) w' ∧ Bel w w') := by
  refine (hc.2 E w args' hr.ro (by rw [ro_length]; exact ha)).mono ?_
  rintro e w' ⟨E', v', rfl, h1, h2, h3⟩
  have hlen : (ro h ++ L).length = (h ++ L).length := by rw [List.length_append, List.length_append, ro_length]
  have hfr : ∀ i, i < w.heap.size → w'.heap[i]? = w.heap[i]? := fun i hi => h3.frame i hi fun b k hb hk => by
    obtain ⟨_, _, _, h4⟩ := ro_get hb; rw [h4] at hk; cases hk
  have hbel : Bel w w' := ⟨h3.os, h3.tape, h3.output, h3.size, fun i hi => hfr i hi⟩
  have loc : ∀ b, b < h.length → E'.loc b = E.loc b := fun b hb => h3.loc b (by rwa [ro_length])
  have room : ∀ b, b < h.length → E'.room b = E.room b ∧ E'.base b = E.base b := fun b hb => h3.room b (by rwa [ro_length])
  have get : ∀ (b : Nat) (k : Blk), (h ++ L)[b]? = some k → (b < h.length ∧ h[b]? = some k ∧ (ro h ++ L)[b]? = some ⟨k.cells, false⟩) ∨ (h.length ≤ b ∧ (ro h ++ L)[b]? = some k ∧ (k.rw = true ∨ k.cells = [])) := fun b k hb => by
    rcases Nat.lt_or_ge b h.length with hl | hl
    · rw [List.getElem?_append_left hl] at hb
      exact .inl ⟨hl, hb, by rw [List.getElem?_append_left (by rwa [ro_length])]; exact ro_of hb⟩
    · rw [List.getElem?_append_right hl] at hb
      exact .inr ⟨hl, by rw [List.getElem?_append_right (by rwa [ro_length]), ro_length]; exact hb, newL_get hL hb⟩
  have new : ∀ (b : Nat) (k : Blk), (ro h ++ L)[b]? = some k → k.rw = true → w.heap.size ≤ E'.loc b := fun b k hb hk => by
    rcases h3.own b k hb hk with h4 | ⟨b0, k0, h4, h5, _⟩
    · exact h4
    · obtain ⟨_, _, _, h6⟩ := ro_get h4; rw [h6] at h5; cases h5
  refine ⟨E', v', rfl, by rw [← hlen]; exact h1, ⟨fun b k hb => ?_, fun b k i x hb hx => ?_, fun b k hb => ?_, fun b k hb hk => ?_, fun b k hb hk b' k' hb' hne hlive => ?_, h2.door, fun b k hb hk => by
      rcases get b k hb with ⟨hl, h5, _⟩ | ⟨_, h4, _⟩
      · rw [loc b hl]; exact hr.away b k h5 hk
      · exact h2.away b k h4 hk⟩,
    ⟨by simp, loc, room, h3.size, h3.os, h3.tape, h3.output, fun i hi _ => hfr i hi, fun b k hb hk => ?_⟩, hbel⟩
  · rcases get b k hb with ⟨_, _, h4⟩ | ⟨_, h4, _⟩ <;> exact h2.lt b _ h4
  · rw [← hlen]
    rcases get b k hb with ⟨_, _, h4⟩ | ⟨_, h4, _⟩ <;> exact h2.cell b _ i x h4 hx
  · rcases get b k hb with ⟨_, _, h4⟩ | ⟨_, h4, _⟩
    · exact (h2.room b ⟨k.cells, false⟩ h4 :)
    · exact h2.room b k h4
  · rcases get b k hb with ⟨hl, h5, _⟩ | ⟨_, h4, _⟩
    · obtain ⟨h6, cs, e, h7, h8⟩ := hr.own b k h5 hk
      exact ⟨(room b hl).2.trans h6, cs, e, by rw [loc b hl, hfr _ (hr.lt b k h5)]; exact h7, by rw [(room b hl).1]; exact h8⟩
    · exact h2.own b k h4 hk
  · rcases get b k hb with ⟨hl, h5, h6⟩ | ⟨hl, h6, _⟩
    · rcases get b' k' hb' with ⟨hl', h5', h6'⟩ | ⟨hl', h6', h7'⟩
      · rw [loc b hl, loc b' hl']; exact hr.sep b k h5 hk b' k' h5' hne hlive
      · have hrw : k'.rw = true := h7'.elim id fun e => hlive.elim id fun h => absurd e h
        have h8 := new b' k' h6' hrw
        have h9 := hr.lt b k h5
        rw [loc b hl]; omega
    · have h8 := new b k h6 hk
      rcases get b' k' hb' with ⟨hl', h5', _⟩ | ⟨hl', h6', h7'⟩
      · have h9 := hr.lt b' k' h5'
        rw [loc b' hl']; omega
      · exact h2.sep b k h6 hk b' k' h6' hne hlive
  · rcases get b k hb with ⟨hl, h5, _⟩ | ⟨hl, h6, _⟩
    · exact .inr ⟨b, k, h5, hk, (loc b hl).symm⟩
    · exact .inl (new b k h6 hk)

/-- A call that makes memory and writes none. -/
def callC (P : Program) (f : FuncId) (args : List Value) (h : List Blk) (K : Value → List Blk → Prop) : Prop := ∃ v L, AC P f args (ro h) v (ro h ++ L) ∧ newL L = true ∧ K v (h ++ L)
@[congr] theorem callC_congr {P : Program} {f : FuncId} {args args' : List Value} {h h' : List Blk} {K : Value → List Blk → Prop} (ha : args = args') (hh : h = h') : callC P f args h K = callC P f args' h' K := by rw [ha, hh]
structure NL (L : List Blk) : Prop where
  all : newL L = true
theorem callC_i {P : Program} {f : FuncId} {args : List Value} {h L : List Blk} {v : Value} {K : Value → List Blk → Prop} (hc : AC P f args (ro h) v (ro h ++ L)) (hL : NL L) (hk : K v (h ++ L)) : callC P f args h K := ⟨v, L, hc, hL.1, hk⟩
def opC (P : Program) (o : Oper) (s : AS) (K : AS → Prop) : Prop :=
  match o.op with
  | .call c =>
    match c.callee with
    | .value (.func f) => callC P f (c.args.toList.map (ev s.t)) s.h (contK K s.t o.dst)
    | _ => False
  | _ => False
def execC (P : Program) (ops : Array Oper) (s : AS) (K : AS → Prop) : Option Oper → Prop
  | some o => guardK ops o s (opC P o s K) (K (s.put o.dst U))
  | none => False

section
variable {P : Program} {ops : Array Oper} {K : AS → Prop} {s : AS} {d : Option Tmp} {op : Op} {ty : TypeId} {pos : String} {af : Array Edge} {g : Option (Nat × Bool)}
@[go_sem] theorem execC_none : execC P ops s K (some ⟨d, op, ty, pos, af, none⟩) = opC P ⟨d, op, ty, pos, af, none⟩ s K := nr rfl
@[go_sem] theorem execC_guard {j : Nat} {want : Bool} : execC P ops s K (some ⟨d, op, ty, pos, af, some (j, want)⟩) = gK (yieldA ops s.t j) want (opC P ⟨d, op, ty, pos, af, some (j, want)⟩ s K) (K (s.put d U)) := nr rfl
@[go_sem] theorem opC_call1 {f : FuncId} {ts : Array TypeId} {a : Operand} : opC P ⟨d, .call ⟨.value (.func f), #[a], ts⟩, ty, pos, af, g⟩ s K = callC P f [ev s.t a] s.h (contK K s.t d) := nr rfl
@[go_sem] theorem opC_call2 {f : FuncId} {ts : Array TypeId} {a b : Operand} : opC P ⟨d, .call ⟨.value (.func f), #[a, b], ts⟩, ty, pos, af, g⟩ s K = callC P f [ev s.t a, ev s.t b] s.h (contK K s.t d) := nr rfl
@[go_sem] theorem opC_call3 {f : FuncId} {ts : Array TypeId} {a b c : Operand} : opC P ⟨d, .call ⟨.value (.func f), #[a, b, c], ts⟩, ty, pos, af, g⟩ s K = callC P f [ev s.t a, ev s.t b, ev s.t c] s.h (contK K s.t d) := nr rfl
@[congr] theorem execC_congr {s' : AS} {o o' : Option Oper} (h : o = o') (hs : s = s') : execC P ops s K o = execC P ops s' K o' := by rw [h, hs]
@[congr] theorem opC_congr {s' : AS} {o : Oper} (h : s = s') : opC P o s K = opC P o s' K := by rw [h]
attribute [go_sem] ro_length
end

section
variable {P : Program} {ops : Array Oper} {Q : Exit → AS → Prop} {s : AS} {n0 : Nat} {ks : List Nat} {hS : List Blk}

theorem opC_sound {o : Oper} {E : Emb} {a : Act} {w : World} {Es : Emb} {ws : World} (hs : SR E s a w) (hh : Held Es hS ws E s.h.length) (hsb : SB Es hS ws w) (hal : Alive hS s.h)
    {K : AS → Prop} (h : opC P o s K) {next : Act → World → Prop} {Q' : Exit → Act → World → Prop}
    (hn : ∀ E' s' a' w', K s' → SR E' s' a' w' → Link E s.h w E' s'.h w' → SB Es hS ws w' → Alive hS s'.h → next a' w') : o.wp P a w next Q' := by
  obtain ⟨dst, op, ty, pos, after, guard⟩ := o
  cases op with
  | call c =>
    obtain ⟨callee, args, types⟩ := c
    cases callee with
    | value x =>
      cases x with
      | func f =>
        obtain ⟨v, L, hac, hL, hk⟩ := (show callC P f (args.toList.map (ev s.t)) s.h (contK K s.t dst) from h)
        have hrun : (execOp a.eval { dst, op := .call { callee := .value (.func f), args, argTypes := types }, type := ty, pos, after, guard }).run P w = .ok (.enter f (args.map a.eval)) w := by
          simp [execOp, resolve, Act.eval, Deferred.ofValue, invoke]
          exact hac.1 _ _
        unfold Oper.wp
        rw [hrun, Oper.upon_enter]
        refine (AC_add (args' := args.map a.eval) hac hL hs.mem ?_).mono ?_
        · refine P2.of_get (by simp) fun i x hx => ?_
          rw [List.getElem?_map] at hx
          cases hi : args.toList[i]? with
          | none => rw [hi] at hx; cases hx
          | some y =>
            rw [hi] at hx
            cases hx
            exact ⟨a.eval y, by rw [Array.toList_map, List.getElem?_map, hi]; rfl, ev_sound hs.tmps y⟩
        · rintro e w' ⟨E', v', rfl, h1, h2, h3, h4⟩
          have hsh : ∀ v0, (AS.put ⟨s.t, s.h ++ L⟩ dst v0).h = s.h ++ L := fun v0 => by cases dst <;> rfl
          refine hn E' _ _ w' hk ((hs.step h2 h3).put dst h1) (by rw [hsh]; exact h3) (hsb.bel hh h4) ?_
          rw [hsh]
          exact fun b k hb hne => by
            obtain ⟨k', h5, h6⟩ := hal b k hb hne
            exact ⟨k', by rw [List.getElem?_append_left (List.getElem?_eq_some_iff.1 h5).1]; exact h5, h6⟩
      | _ => exact (show False from h).elim
    | _ => exact (show False from h).elim
  | _ => exact (show False from h).elim

/-- One call alone may come up, and it makes memory and writes none. -/
theorem RB_keepC (i n : Nat) {m : Nat} {listed : Array Bool} (hm : m = n + 1) (hr : Region.ready .any ops listed = [i]) (h : execC P ops s (RB P n0 ops ks hS Q true n (listed.setIfInBounds i true)) (ops[i]?)) : RB P n0 ops ks hS Q true m listed s := fun E a w E0 h0 w0 Es ws hc hs hl hh hk => by
  subst hm
  refine ⟨fun h0 => (by rw [hr] at h0; cases h0), fun j hj w' hw' => ?_⟩
  have hi : i ∈ Region.ready .any ops listed := by rw [hr]; simp
  have : j = i := by rw [hr] at hj; simpa using hj
  subst this
  have hc' := hc.set hi
  have hs' := hs.bel hw'
  have hl' := hl.trans ((Link.bel (E := E) (h := s.h) hw').toN hl.len)
  obtain ⟨hk1, hk2⟩ := hk rfl
  have hk1' := hk1.bel hh hw'
  unfold wpOp
  cases ho : ops[j]? with
  | none => rw [ho] at h; exact h.elim
  | some o =>
    rw [ho] at h
    unfold execC at h
    simp only
    rcases wanted_guard hs' h with ⟨hw, h⟩ | ⟨hw, h⟩
    · rw [if_pos hw]
      exact .inl (opC_sound hs' hh hk1' hk2 h fun E' s' a' w2 hK hs2 hl2 hsb hal => ⟨fun _ _ => hsb, hK E' a' w2 E0 h0 w0 Es ws hc' hs2 (hl'.trans (hl2.toN hl'.len)) (hh.step hl2) (fun _ => ⟨hsb, hal⟩)⟩)
    · rw [if_neg (by simp [hw])]
      have hsh : (s.put o.dst U).h = s.h := by cases o.dst <;> rfl
      exact ⟨fun _ h => h, h E _ w' E0 h0 w0 Es ws hc' (hs'.put _ VR.undef) (by rw [hsh]; exact hl') (by rw [hsh]; exact hh) (fun _ => ⟨hk1', by rw [hsh]; exact hk2⟩)⟩
end

/-! ### Calls that leave memory as it is -/
theorem callC_q {P : Program} {f : FuncId} {args : List Value} {h : List Blk} {v : Value} {K : Value → List Blk → Prop} (hc : AC P f args (ro h) v (ro h)) (hk : K v h) : callC P f args h K :=
  ⟨v, [], by rw [List.append_nil]; exact hc, rfl, by rw [List.append_nil]; exact hk⟩
theorem ro_append (a b : List Blk) : ro (a ++ b) = ro a ++ ro b := by unfold ro; rw [List.map_append]
theorem ro_cons (k : Blk) (l : List Blk) : ro (k :: l) = ⟨k.cells, false⟩ :: ro l := rfl
theorem ro_nil : ro [] = [] := rfl
theorem look_ro (H L : List Blk) (k : Nat) : (ro H ++ L)[H.length + k]? = L[k]? := by rw [List.getElem?_append_right (by rw [ro_length]; omega), ro_length]; congr 1; omega
theorem look_ro0 (H L : List Blk) : (ro H ++ L)[H.length]? = L[0]? := by rw [List.getElem?_append_right (by rw [ro_length]; omega), ro_length]; simp
theorem look_ro_old {H : List Blk} {b : Nat} {k : Blk} (hb : H[b]? = some k) (L : List Blk) : (ro (H ++ L))[b]? = some ⟨k.cells, false⟩ := ro_of (look_old hb L)
attribute [go_sem] ro_append ro_cons ro_nil look_ro look_ro0

/-! ### Copies from slice to slice -/
def copyR (h : List Blk) (b o n z o' n' : Nat) : Option Blk → Option Blk → Option (Value × List Blk)
  | some k, some k' => if k.rw = true ∧ o + Nat.min n' n * z ≤ k.cells.length ∧ o' + Nat.min n' n * z ≤ k'.cells.length then some (.int .i64 ((Nat.min n' n : Nat) : Int), h.set b ⟨splice k.cells o (sub k'.cells o' (Nat.min n' n * z)), true⟩) else none
  | _, _ => none
theorem copy_of {P : Program} {T e : TypeId} {z by' : Nat} (hi : elemInfo P T = some (e, z, by')) (h : List Blk) (b o n b' o' n' : Nat) : copyA P h T (sl b o n z) (sl b' o' n' z) = copyR h b o n z o' n' (h[b]?) (h[b']?) := by
  unfold copyA copyR
  simp only [hi, slA, Option.bind_some, true_and]
  cases h[b]? <;> cases h[b']? <;> rfl
theorem copyR_some {h : List Blk} {b o n z o' n' : Nat} {cs cs' : List Value} {r : Bool} (h1 : o + min n' n * z ≤ cs.length) (h2 : o' + min n' n * z ≤ cs'.length) :
    copyR h b o n z o' n' (some ⟨cs, true⟩) (some ⟨cs', r⟩) = some (.int .i64 ((min n' n : Nat) : Int), h.set b ⟨splice cs o (sub cs' o' (min n' n * z)), true⟩) := if_pos ⟨rfl, h1, h2⟩
attribute [go_sem] copyR_some

/-! ### Memory that is written in one block -/
theorem ares_nil {P : Program} {s : AS} : aresults P [] s = some (.tuple #[]) := rfl
theorem look_set {h : List Blk} {b : Nat} {x : Blk} (hb : b < h.length) : (h.set b x)[b]? = some x := by simp [hb]
theorem set_id {h : List Blk} {b : Nat} {x : Blk} (hb : h[b]? = some x) : h.set b x = h := by
  apply List.ext_getElem?
  intro i
  rw [List.getElem?_set]
  by_cases e : b = i
  · subst e; rw [if_pos rfl]; split
    · exact hb.symm
    · rename_i h'; rw [List.getElem?_eq_none (by omega)]
  · rw [if_neg e]
theorem set_at {h : List Blk} {b i : Nat} {x y : Blk} (hb : h[i]? = some y) (hi : b ≠ i) : (h.set b x)[i]? = some y := by rw [List.getElem?_set_ne hi]; exact hb
end Go.Abs
