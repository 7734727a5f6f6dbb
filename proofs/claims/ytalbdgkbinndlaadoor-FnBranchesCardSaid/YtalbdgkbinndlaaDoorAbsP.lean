/- The abstract machine, part P: three that may come up; loops and joints told by what holds. Generic: no program in sight. -/
import Derived.Test.YtalbdgkbinndlaaDoorAbsV
namespace Go.Abs
set_option linter.unusedSimpArgs false
set_option linter.unusedVariables false
set_option maxRecDepth 20000
set_option maxHeartbeats 1000000

section
variable {P : Program} {ops : Array Oper} {Q : Exit → AS → Prop} {s : AS} {n0 : Nat} {ks : List Nat} {hS : List Blk}
/-- A call that makes memory and writes none, and two operations that make memory: each may come up. -/
theorem RB_threeC (i j l n : Nat) {m : Nat} {listed : Array Bool} (hm : m = n + 1) (hr : Region.ready .any ops listed = [i, j, l]) (hp' : presI s hS (ops[j]?)) (hp'' : presI s hS (ops[l]?)) (h : execC P ops s (RB P n0 ops ks hS Q true n (listed.setIfInBounds i true)) (ops[i]?))
    (h' : execI P ops s (RB P n0 ops ks hS Q true n (listed.setIfInBounds j true)) (ops[j]?)) (h'' : execI P ops s (RB P n0 ops ks hS Q true n (listed.setIfInBounds l true)) (ops[l]?)) : RB P n0 ops ks hS Q true m listed s := fun E a w E0 h0 w0 Es ws hc hs hl hh hk => by
  subst hm
  refine ⟨fun h0 => (by rw [hr] at h0; cases h0), fun k hk' w' hw' => ?_⟩
  have hi : i ∈ Region.ready .any ops listed := by rw [hr]; simp
  have hj : j ∈ Region.ready .any ops listed := by rw [hr]; simp
  have hl3 : l ∈ Region.ready .any ops listed := by rw [hr]; simp
  have hk' : k = i ∨ k = j ∨ k = l := by
    rw [hr] at hk'; simpa using hk'
  rcases hk' with rfl | rfl | rfl
  · have hc' := hc.set hi
    have hs' := hs.bel hw'
    have hl' := hl.trans ((Link.bel (E := E) (h := s.h) hw').toN hl.len)
    obtain ⟨hk1, hk2⟩ := hk rfl
    have hk1' := hk1.bel hh hw'
    unfold wpOp
    cases ho : ops[k]? with
    | none => rw [ho] at h; exact h.elim
    | some o =>
      rw [ho] at h
      unfold execC at h
      simp only
      rcases wanted_guard hs' h with ⟨hw, h⟩ | ⟨hw, h⟩
      · rw [if_pos hw]
        exact .inl (opC_sound hs' hh hk1' hk2 h fun E' s' a' w2 hK hs2 hl2 hsb hal => ⟨fun _ _ => hsb, hK E' a' w2 E0 h0 w0 Es ws hc' hs2 (hl'.trans (hl2.toN hl'.len)) (hh.step hl2) (fun _ => ⟨hsb, hal⟩)⟩)
      · rw [if_neg (by simp [hw])]
        have hsh : (s.put o.dst U).h = s.h := by cases o.dst <;> rfl
        exact ⟨fun _ h => h, h E _ w' E0 h0 w0 Es ws hc' (hs'.put _ VR.undef) (by rw [hsh]; exact hl') (by rw [hsh]; exact hh) (fun _ => ⟨hk1', by rw [hsh]; exact hk2⟩)⟩
  · exact keep_sound hj hp' h' E a w E0 h0 w0 Es ws hc hs hl hh hk w' hw'
  · exact keep_sound hl3 hp'' h'' E a w E0 h0 w0 Es ws hc hs hl hh hk w' hw'
end

section
variable {P : Program} {ops : Array Oper} {Q : Exit → AS → Prop} {s : AS} {n0 : Nat} {ks : List Nat} {hS : List Blk} {ok : Bool}
/-- Several operations may come up. -/
theorem RB_any (R : List Nat) (n : Nat) {m : Nat} {listed : Array Bool} (hm : m = n + 1) (hne : R ≠ []) (hk : R.all ks.contains = true) (hr : Region.ready .any ops listed = R)
    (h : ∀ i, i ∈ R → execI P ops s (RB P n0 ops ks hS Q false n (listed.setIfInBounds i true)) (ops[i]?)) : RB P n0 ops ks hS Q ok m listed s := fun E a w E0 h0 w0 Es ws hc hs hl hh _ => by
  subst hm
  refine ⟨fun h0 => absurd (hr.symm.trans h0) hne, fun k hk' w' hw' => ?_⟩
  have hi := hk'
  rw [hr] at hk'
  exact exec_sound hi (List.all_eq_true.1 hk k hk') (h k hk') E a w E0 h0 w0 Es ws hc hs hl hh w' hw'
theorem RB_four (i j k l n : Nat) {m : Nat} {listed : Array Bool} (hm : m = n + 1) (hk : [i, j, k, l].all ks.contains = true) (hr : Region.ready .any ops listed = [i, j, k, l])
    (h1 : execI P ops s (RB P n0 ops ks hS Q false n (listed.setIfInBounds i true)) (ops[i]?)) (h2 : execI P ops s (RB P n0 ops ks hS Q false n (listed.setIfInBounds j true)) (ops[j]?))
    (h3 : execI P ops s (RB P n0 ops ks hS Q false n (listed.setIfInBounds k true)) (ops[k]?)) (h4 : execI P ops s (RB P n0 ops ks hS Q false n (listed.setIfInBounds l true)) (ops[l]?)) : RB P n0 ops ks hS Q ok m listed s :=
  RB_any [i, j, k, l] n hm (by simp) hk hr fun x hx => by
    simp at hx
    rcases hx with rfl | rfl | rfl | rfl <;> assumption
theorem RB_three (i j k n : Nat) {m : Nat} {listed : Array Bool} (hm : m = n + 1) (hk : [i, j, k].all ks.contains = true) (hr : Region.ready .any ops listed = [i, j, k])
    (h1 : execI P ops s (RB P n0 ops ks hS Q false n (listed.setIfInBounds i true)) (ops[i]?)) (h2 : execI P ops s (RB P n0 ops ks hS Q false n (listed.setIfInBounds j true)) (ops[j]?))
    (h3 : execI P ops s (RB P n0 ops ks hS Q false n (listed.setIfInBounds k true)) (ops[k]?)) : RB P n0 ops ks hS Q ok m listed s :=
  RB_any [i, j, k] n hm (by simp) hk hr fun x hx => by
    simp at hx
    rcases hx with rfl | rfl | rfl <;> assumption
end

section
variable {P : Program} {K : AS → Prop} {s : AS} {d : Option Tmp} {ty : TypeId} {pos : String} {af : Array Edge} {g : Option (Nat × Bool)}
@[go_sem] theorem opQ_min {x y : Operand} {ts : Array TypeId} : opQ P ⟨d, .call ⟨.builtin .min, #[x, y], ts⟩, ty, pos, af, g⟩ s K = someK (amin (ev s.t x) (ev s.t y)) fun v => K (s.put d v) := nr rfl
@[go_sem] theorem opQ_max {x y : Operand} {ts : Array TypeId} : opQ P ⟨d, .call ⟨.builtin .max, #[x, y], ts⟩, ty, pos, af, g⟩ s K = someK (amax (ev s.t x) (ev s.t y)) fun v => K (s.put d v) := nr rfl
end

/-- Between a region and what follows: what holds is said outright. -/
theorem WA_midG {P : Program} {n0 : Nat} {x y : Code} {Q Q' : Exit → AS → Prop} {s : AS} (G : AS → Prop) (h : WA P n0 x (Then (fun s' => ∃ s3, G s3 ∧ Drop n0 s' s3) Q') s) (hk : ∀ s', G s' → WA P n0 y Q s') : WA P n0 x (Then (WA P n0 y Q) Q') s :=
  WA_mono h fun e s' h1 => by
    cases e <;> first
      | (obtain ⟨s3, h2, h3⟩ := h1; exact WA_pre h3 (hk _ h2))
      | exact h1
/-- A loop told by what holds after k rounds. -/
theorem WA_forX {P : Program} {Q : Exit → AS → Prop} {n0 : Nat} {s : AS} {c : Code} (G : Nat → AS → Prop) (n : Nat) (h0 : ∃ s0, G 0 s0 ∧ Drop n0 s s0)
    (step : ∀ k, k < n → ∀ s', G k s' → WA P n0 c (Then (fun s'' => ∃ s3, G (k + 1) s3 ∧ Drop n0 s'' s3) Q) s')
    (done : ∀ s', G n s' → WA P n0 c (Then (fun _ => False) Q) s') : WA P n0 (.loop c) Q s := by
  obtain ⟨s0, hg, hd⟩ := h0
  refine WA_pre hd (WA_loop (fun m s => m ≤ n ∧ G (n - m) s) (n := n) ⟨Nat.le_refl _, by simpa using hg⟩ fun m s ⟨hm, hj⟩ => ?_)
  by_cases hm0 : m = 0
  · subst hm0
    exact WA_mono (done s (by simpa using hj)) fun e s' h => by cases e <;> first | exact h.elim | exact h
  · refine WA_mono (step (n - m) (by omega) s hj) fun e s' h => ?_
    cases e with
    | normal =>
      have : n - (m - 1) = n - m + 1 := by omega
      obtain ⟨s3, h1, h2⟩ := h
      exact ⟨m - 1, s3, by omega, ⟨by omega, by rw [this]; exact h1⟩, h2⟩
    | _ => exact h
end Go.Abs
