/- The abstract machine, part Q: regions with a call of a function that a slot holds. Generic: no program in sight. -/
import Derived.Test.YtenkjbkcdcionaaGreatAbsV
namespace Go.Abs
set_option linter.unusedSimpArgs false
set_option linter.unusedVariables false
set_option maxRecDepth 20000
set_option maxHeartbeats 1000000

@[go_sem] theorem ev_func' (t : List Value) (f : FuncId) : ev t (.func f) = .func (.func f) #[] #[] := rfl
section
variable {P : Program} {Q : Exit → AS → Prop} {s : AS} {n0 : Nat}
end
end Go.Abs
