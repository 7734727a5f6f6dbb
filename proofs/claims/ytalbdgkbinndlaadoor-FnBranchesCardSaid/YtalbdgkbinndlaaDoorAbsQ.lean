/- The abstract machine, part Q: regions with a call of a function that a slot holds. Generic: no program in sight. -/
import Derived.Test.YtalbdgkbinndlaaDoorAbsV
namespace Go.Abs
set_option linter.unusedSimpArgs false
set_option linter.unusedVariables false
set_option maxRecDepth 20000
set_option maxHeartbeats 1000000

@[go_sem] theorem ev_func' (t : List Value) (f : FuncId) : ev t (.func f) = .func (.func f) #[] #[] := rfl
section
variable {P : Program} {Q : Exit → AS → Prop} {s : AS} {n0 : Nat}
/-- One operation, or a call of the function in a slot. -/
def opKd (P : Program) (o : Oper) (s : AS) (K : AS → Prop) : Prop :=
  opK P o s K ∨ ∃ (t : Tmp) (args : Array Operand) (ts : Array TypeId) (f : FuncId), o.op = .call ⟨.value (.tmp t), args, ts⟩ ∧ ev s.t (.tmp t) = .func (.func f) #[] #[] ∧
    callK P f (args.toList.map (ev s.t)) s.h fun v h' => K (AS.put ⟨s.t, h'⟩ o.dst v)
def opsKd (P : Program) (ops : Array Oper) (K : AS → Prop) : List Oper → AS → Prop
  | [], s => K s
  | o :: rest, s => guardK ops o s (opKd P o s (opsKd P ops K rest)) (opsKd P ops K rest (s.put o.dst U))
theorem callD_sound {f : FuncId} {t : Tmp} {args : Array Operand} {ts : Array TypeId} {o : Oper} (ho : o.op = .call ⟨.value (.tmp t), args, ts⟩) {E : Emb} {a : Act} {w : World} (hs : SR E s a w) (ht : ev s.t (.tmp t) = .func (.func f) #[] #[]) {K : Value → List Blk → Prop}
    (h : callK P f (args.toList.map (ev s.t)) s.h K) {next : Act → World → Prop} {Q' : Exit → Act → World → Prop}
    (hn : ∀ E' v v' h' w', K v h' → VR E' h'.length v v' → HR E' h' w' → Link E s.h w E' h' w' → next (a.put o.dst v') w') : o.wp P a w next Q' := by
  obtain ⟨v, h', ⟨hcall, hac⟩, hk⟩ := h
  obtain ⟨dst, op, ty, pos, after, guard⟩ := o
  simp only at ho
  subst ho
  have he : a.eval (.tmp t) = .func (.func f) #[] #[] := by
    have := ev_sound hs.tmps (.tmp t)
    rw [ht] at this
    exact this
  have hrun : (execOp a.eval { dst, op := .call { callee := .value (.tmp t), args, argTypes := ts }, type := ty, pos, after, guard }).run P w = .ok (.enter f (args.map a.eval)) w := by
    simp [execOp, resolve, he, Deferred.ofValue, invoke]
    exact hcall _ _
  unfold Oper.wp
  rw [hrun, Oper.upon_enter]
  refine (hac E w (args.map a.eval) hs.mem ?_).mono ?_
  · refine P2.of_get (by simp) fun i x hx => ?_
    rw [List.getElem?_map] at hx
    cases hi : args.toList[i]? with
    | none => rw [hi] at hx; cases hx
    | some y =>
      rw [hi] at hx
      cases hx
      exact ⟨a.eval y, by rw [Array.toList_map, List.getElem?_map, hi]; rfl, ev_sound hs.tmps y⟩
  · rintro e w' ⟨E', v', rfl, h1, h2, h3⟩
    exact hn E' v v' h' w' hk h1 h2 h3
theorem opKd_sound {o : Oper} {E : Emb} {a : Act} {w : World} (hs : SR E s a w) {K : AS → Prop} (h : opKd P o s K) {next : Act → World → Prop} {Q' : Exit → Act → World → Prop}
    (hn : ∀ E' s' a' w', K s' → SR E' s' a' w' → Link E s.h w E' s'.h w' → next a' w') : o.wp P a w next Q' := by
  rcases h with h | ⟨t, args, ts, f, ho, ht, h⟩
  · exact opK_sound hs h hn
  · exact callD_sound ho hs ht h fun E' v v' h' w' hk hv hr hl => hn E' _ _ w' hk ((hs.step hr hl).put _ hv) (by cases hd : o.dst <;> simp [AS.put] <;> exact hl)
theorem opsKd_sound {ops : Array Oper} {E0 : Emb} {h0 : List Blk} {w0 : World} : ∀ (l : List Oper) (k : Nat), (∀ j, l[j]? = ops[k + j]?) → ∀ (s : AS) (E : Emb) (a : Act) (w : World), opsKd P ops (Q .normal) l s → SR E s a w →
    LinkN n0 E0 h0 w0 E s.h w → wpOps P ops (Post n0 Q E0 h0 w0) (List.range' k l.length) a w
  | [], k, hl, s, E, a, w, h, hs, hlink => ⟨E, s, h, hs, hlink⟩
  | o :: rest, k, hl, s, E, a, w, h, hs, hlink => by
    have h0 : ops[k]? = some o := by simpa using (hl 0).symm
    have hrest : ∀ j, rest[j]? = ops[k + 1 + j]? := fun j => by
      have := hl (j + 1)
      rw [List.getElem?_cons_succ] at this
      rw [this]; congr 1; omega
    simp only [List.length_cons, List.range'_succ, wpOps, h0]
    rcases wanted_guard hs h with ⟨hw, h⟩ | ⟨hw, h⟩
    · rw [if_pos hw]
      exact .inl (opKd_sound hs h fun E' s' a' w' hk hs' hl' => opsKd_sound rest (k + 1) hrest s' E' a' w' hk hs' (hlink.trans (hl'.toN hlink.len)))
    · rw [if_neg (by simp [hw])]
      refine opsKd_sound rest (k + 1) hrest _ E _ w h (hs.put _ VR.undef) ?_
      cases hd : o.dst <;> simp [AS.put] <;> exact hlink
theorem opsKd_run {ops : Array Oper} {K : AS → Prop} {o : Oper} {rest : List Oper} (hg : o.guard = none) (h : opK P o s (opsKd P ops K rest)) : opsKd P ops K (o :: rest) s := by
  unfold opsKd guardK
  rw [hg]
  exact .inl h
theorem opsKd_dyn {ops : Array Oper} {K : AS → Prop} {o : Oper} {rest : List Oper} (hg : o.guard = none) {t : Tmp} {args : Array Operand} {ts : Array TypeId} {f : FuncId} (ho : o.op = .call ⟨.value (.tmp t), args, ts⟩) (ht : ev s.t (.tmp t) = .func (.func f) #[] #[])
    (h : callK P f (args.toList.map (ev s.t)) s.h fun v h' => opsKd P ops K rest (AS.put ⟨s.t, h'⟩ o.dst v)) : opsKd P ops K (o :: rest) s := by
  unfold opsKd guardK
  rw [hg]
  exact .inr ⟨t, args, ts, f, ho, ht, h⟩
theorem opsKd_nil {ops : Array Oper} {K : AS → Prop} (h : K s) : opsKd P ops K [] s := h
theorem WA_regionD {id : Nat} {ops : Array Oper} (h : opsKd P ops (Q .normal) ops.toList s) : WA P n0 (.region id ops false) Q s := fun E a w hn hs => by
  refine wp_region ?_
  have := opsKd_sound (Q := Q) ops.toList 0 (fun j => by simp) s E a w h hs (LinkN.refl E w hn)
  simpa [List.range_eq_range'] using this
end
end Go.Abs
