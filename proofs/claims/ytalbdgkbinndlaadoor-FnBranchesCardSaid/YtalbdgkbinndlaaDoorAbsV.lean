/- The abstract machine, part V: calls of other numbers of arguments. Generic: no program in sight. -/
import Derived.Test.YtalbdgkbinndlaaDoorAbsU
namespace Go.Abs
set_option linter.unusedSimpArgs false
set_option linter.unusedVariables false
set_option maxRecDepth 20000
set_option maxHeartbeats 1000000

section
variable {P : Program} {ops : Array Oper} {K : AS → Prop} {s : AS} {d : Option Tmp} {ty : TypeId} {pos : String} {af : Array Edge} {g : Option (Nat × Bool)} {hS : List Blk}
@[go_sem] theorem opB_call0 {f : FuncId} {ts : Array TypeId} : opB P ⟨d, .call ⟨.value (.func f), #[], ts⟩, ty, pos, af, g⟩ hS s K = callB P f [] hS (contQ K s d) := nr rfl
@[go_sem] theorem opB_call6 {f : FuncId} {ts : Array TypeId} {a b c e e1 e2 : Operand} : opB P ⟨d, .call ⟨.value (.func f), #[a, b, c, e, e1, e2], ts⟩, ty, pos, af, g⟩ hS s K = callB P f [ev s.t a, ev s.t b, ev s.t c, ev s.t e, ev s.t e1, ev s.t e2] hS (contQ K s d) := nr rfl
@[go_sem] theorem opQ_call0 {f : FuncId} {ts : Array TypeId} : opQ P ⟨d, .call ⟨.value (.func f), #[], ts⟩, ty, pos, af, g⟩ s K = callQ P f [] s.h (contQ K s d) := nr rfl
@[go_sem] theorem opQ_call5 {f : FuncId} {ts : Array TypeId} {a b c e e1 : Operand} : opQ P ⟨d, .call ⟨.value (.func f), #[a, b, c, e, e1], ts⟩, ty, pos, af, g⟩ s K = callQ P f [ev s.t a, ev s.t b, ev s.t c, ev s.t e, ev s.t e1] s.h (contQ K s d) := nr rfl
@[go_sem] theorem opK_call6 {f : FuncId} {ts : Array TypeId} {a b c e e1 e2 : Operand} : opK P ⟨d, .call ⟨.value (.func f), #[a, b, c, e, e1, e2], ts⟩, ty, pos, af, g⟩ s K = callK P f [ev s.t a, ev s.t b, ev s.t c, ev s.t e, ev s.t e1, ev s.t e2] s.h (contK K s.t d) := nr rfl
@[go_sem] theorem opC_call0 {f : FuncId} {ts : Array TypeId} : opC P ⟨d, .call ⟨.value (.func f), #[], ts⟩, ty, pos, af, g⟩ s K = callC P f [] s.h (contK K s.t d) := nr rfl
@[go_sem] theorem opC_call4 {f : FuncId} {ts : Array TypeId} {a b c e : Operand} : opC P ⟨d, .call ⟨.value (.func f), #[a, b, c, e], ts⟩, ty, pos, af, g⟩ s K = callC P f [ev s.t a, ev s.t b, ev s.t c, ev s.t e] s.h (contK K s.t d) := nr rfl
end

section
variable {P : Program} {ops : Array Oper} {Q : Exit → AS → Prop} {s : AS} {n0 : Nat} {ks : List Nat} {hS : List Blk}
/-- A call that makes memory and writes none, and an operation that makes memory: either may come up. -/
theorem RB_twoC (i j n : Nat) {m : Nat} {listed : Array Bool} (hm : m = n + 1) (hr : Region.ready .any ops listed = [i, j] ∨ Region.ready .any ops listed = [j, i]) (hp' : presI s hS (ops[j]?)) (h : execC P ops s (RB P n0 ops ks hS Q true n (listed.setIfInBounds i true)) (ops[i]?))
    (h' : execI P ops s (RB P n0 ops ks hS Q true n (listed.setIfInBounds j true)) (ops[j]?)) : RB P n0 ops ks hS Q true m listed s := fun E a w E0 h0 w0 Es ws hc hs hl hh hk => by
  subst hm
  refine ⟨fun h0 => (by rcases hr with hr | hr <;> (rw [hr] at h0; cases h0)), fun k hk' w' hw' => ?_⟩
  have hi : i ∈ Region.ready .any ops listed := by rcases hr with hr | hr <;> (rw [hr]; simp)
  have hj : j ∈ Region.ready .any ops listed := by rcases hr with hr | hr <;> (rw [hr]; simp)
  have hk' : k = i ∨ k = j := by
    rcases hr with hr | hr <;> (rw [hr] at hk'; simp at hk'; omega)
  rcases hk' with rfl | rfl
  · have hc' := hc.set hi
    have hs' := hs.bel hw'
    have hl' := hl.trans ((Link.bel (E := E) (h := s.h) hw').toN hl.len)
    obtain ⟨hk1, hk2⟩ := hk rfl
    have hk1' := hk1.bel hh hw'
    unfold wpOp
    cases ho : ops[k]? with
    | none => rw [ho] at h; exact h.elim
    | some o =>
      rw [ho] at h
      unfold execC at h
      simp only
      rcases wanted_guard hs' h with ⟨hw, h⟩ | ⟨hw, h⟩
      · rw [if_pos hw]
        exact .inl (opC_sound hs' hh hk1' hk2 h fun E' s' a' w2 hK hs2 hl2 hsb hal => ⟨fun _ _ => hsb, hK E' a' w2 E0 h0 w0 Es ws hc' hs2 (hl'.trans (hl2.toN hl'.len)) (hh.step hl2) (fun _ => ⟨hsb, hal⟩)⟩)
      · rw [if_neg (by simp [hw])]
        have hsh : (s.put o.dst U).h = s.h := by cases o.dst <;> rfl
        exact ⟨fun _ h => h, h E _ w' E0 h0 w0 Es ws hc' (hs'.put _ VR.undef) (by rw [hsh]; exact hl') (by rw [hsh]; exact hh) (fun _ => ⟨hk1', by rw [hsh]; exact hk2⟩)⟩
  · exact keep_sound hj hp' h' E a w E0 h0 w0 Es ws hc hs hl hh hk w' hw'
end
end Go.Abs
