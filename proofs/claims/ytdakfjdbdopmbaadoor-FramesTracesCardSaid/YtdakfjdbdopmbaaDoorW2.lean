/-
  The decimal numeral, by the reference.
-/
import Derived.Test.YtdakfjdbdopmbaaDoorW1
import Derived.Test.YtdakfjdbdopmbaaDoorL1
set_option linter.unusedSimpArgs false
set_option linter.unusedVariables false
set_option maxRecDepth 100000
namespace Go.Proofs.YtdakfjdbdopmbaaDoor
open Go.Hp Go.J Go.S
open Go.Mem (Ty KTy blk elemAt pre suf blk_pre blk_suf aget aset strK aggDesc)
open Go.Lib (decDigits itoa)
theorem bt_ok : (byteT 5).Ok Tryd.prog := byteT_ok (i := Tryd.t5) Tryd.underlying5 (by kernel_rfl) (by kernel_rfl) (by kernel_rfl) (by kernel_rfl)
theorem u64_quo (a b : Nat) (hb : 0 < b) (ha : a < 18446744073709551616) : IntKind.u64.wrap (Int.tdiv (a : Int) (b : Int)) = ((a / b : Nat) : Int) := by
  have e : Int.tdiv (a : Int) (b : Int) = ((a / b : Nat) : Int) := rfl
  have : a / b ≤ a := Nat.div_le_self _ _
  rw [e, u64_wrap (Int.natCast_nonneg _) (Int.ofNat_lt.2 (Nat.lt_of_le_of_lt this ha))]
theorem drop_rev {D : List UInt8} {i : Nat} {y : UInt8} (hi : 0 < i) (hy : D[i - 1]? = some y) : (D.drop (i - 1)).reverse = (D.drop i).reverse ++ [y] := by
  have hlt := (List.getElem?_eq_some_iff.1 hy).1
  rw [List.drop_eq_getElem_cons hlt, show i - 1 + 1 = i by omega, List.reverse_cons, (List.getElem?_eq_some_iff.1 hy).2]
end Go.Proofs.YtdakfjdbdopmbaaDoor
