/- The abstract machine, part Z: functions of three results. Generic: no program in sight. -/
import Derived.Test.YtalbdgkbinndlaaDoorAbsJ
namespace Go.Abs
set_option linter.unusedSimpArgs false
set_option linter.unusedVariables false
set_option maxRecDepth 20000
set_option maxHeartbeats 1000000

section
variable {P : Program} {s : AS}
def tup3 (a b c : Option Value) : Option Value :=
  match a, b, c with
  | some a, some b, some c => if (!isTup a && (!isTup b && !isTup c)) = true then some (.tuple #[a, b, c]) else none
  | _, _, _ => none
@[go_sem] theorem ares_three (r r' r'' : ResultVar) : aresults P [r, r', r''] s = tup3 (ares1 P s r) (ares1 P s r') (ares1 P s r'') := by
  unfold aresults tup3
  simp only [mapO]
  cases ares1 P s r with
  | none => rfl
  | some a =>
    cases ares1 P s r' with
    | none => rfl
    | some b =>
      cases ares1 P s r'' with
      | none => rfl
      | some c => simp [Option.bind, Option.map]
@[go_sem] theorem tup3_some {a b c : Value} (ha : isTup a = false) (hb : isTup b = false) (hc : isTup c = false) : tup3 (some a) (some b) (some c) = some (.tuple #[a, b, c]) := by
  unfold tup3; simp [ha, hb, hc]
end
end Go.Abs
