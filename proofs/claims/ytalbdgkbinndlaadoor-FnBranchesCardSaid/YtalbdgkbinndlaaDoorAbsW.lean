/- The abstract machine, part W: an engine among blocks numbered anew. Generic: no program in sight. -/
import Derived.Test.YtalbdgkbinndlaaDoorAbsN
import Derived.Test.YtalbdgkbinndlaaDoorAbsS
namespace Go.Abs
set_option linter.unusedSimpArgs false
set_option linter.unusedVariables false
set_option maxRecDepth 20000
set_option maxHeartbeats 1000000

theorem Fit_En {N n' : Nat} {r : List Nat} {a0 a1 a2 a3 : Nat → UInt8} {a6 : Int} {p q p' q' : Nat} (hp : p = rhoF N r p') (hq : q = rhoF N r q') (h1 : p' < n') (h2 : q' < n') :
    Fit N r n' ⟨En a0 a1 a2 a3 (pt p 0) (pt q 0) a6, true⟩ ⟨En a0 a1 a2 a3 (pt p' 0) (pt q' 0) a6, true⟩ := by
  refine Fit_ren ?_ (fun h => h) ?_
  · subst hp hq
    show En a0 a1 a2 a3 _ _ a6 = (En a0 a1 a2 a3 _ _ a6).map (renC N r)
    unfold En
    simp only [List.map_append, renC_plains (Bs_plain _ _)]
    rfl
  · intro c hc
    have pl : ∀ {n : Nat} {f : Nat → UInt8}, c ∈ Bs n f → wfC n' c := fun h => wf_plain (Bs_plain _ _) c h
    have hc' : c ∈ En a0 a1 a2 a3 (pt p' 0) (pt q' 0) a6 := hc
    unfold En at hc'
    simp only [List.mem_append, List.mem_singleton] at hc'
    rcases hc' with h | h | h | h | h | h | h
    · exact pl h
    · exact pl h
    · exact pl h
    · exact pl h
    · subst h; exact h1
    · subst h; exact h2
    · subst h; trivial
end Go.Abs
