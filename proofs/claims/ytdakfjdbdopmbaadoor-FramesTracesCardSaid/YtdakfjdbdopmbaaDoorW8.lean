/-
  The messages of codes.
-/
import Derived.Test.YtdakfjdbdopmbaaDoorW7
set_option linter.unusedSimpArgs false
set_option linter.unusedVariables false
set_option maxRecDepth 100000
namespace Go.Proofs.YtdakfjdbdopmbaaDoor
open Go.Hp Go.J Go.S
open Go.Mem (Ty KTy blk elemAt pre suf blk_pre blk_suf aget aset strK aggDesc)
theorem join3 (a b c : ByteArray) : joinT [a, b, c] = a ++ b ++ c := by simp [joinT]
theorem szs3 (a b c : ByteArray) : szs [a, b, c] = a.size + b.size + c.size := by simp [szs]; omega
end Go.Proofs.YtdakfjdbdopmbaaDoor
