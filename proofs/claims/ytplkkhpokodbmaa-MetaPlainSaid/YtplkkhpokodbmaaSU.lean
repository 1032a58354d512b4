/-
  Slices of bytes, and strings out of them. No condition but those that each rule says.
-/
import Derived.Test.YtplkkhpokodbmaaST
import Derived.Laws.BytesString
set_option linter.unusedSimpArgs false
set_option linter.unusedVariables false
namespace Go.S
open Go.Hp Go.J
open Go.Mem (Ty elemAt)
section
variable {P : Program} {E : Env} {Z : Zone} {As : List Asr} {o : Oper}
end
end Go.S
