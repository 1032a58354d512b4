/-
  Strings: concatenation, parts, bytes, length. No condition but those that each rule says.
-/
import Derived.Test.YtplkkhpokodbmaaSQ
set_option linter.unusedSimpArgs false
set_option linter.unusedVariables false
namespace Go.S
open Go.Hp Go.J
section
variable {P : Program} {E : Env} {Z : Zone} {As : List Asr} {o : Oper}
theorem eqg_str {op : BinOp} {t : TypeId} {x y : Operand} {a b : ByteArray} (w : World) : (eqGuard op t x y (.string a) (.string b)).run P w = .ok () w := by
  unfold eqGuard; split <;> rfl
theorem t_cat {t u : TypeId} {x y : Operand} (a b : ByteArray) (hb : ((a.size : Int) + b.size) ≤ 9223372036854775807) (ho : o.op = .binOp .add t x y u := by rfl) (hx : ev E x = .string a := by rfl) (hy : ev E y = .string b := by rfl) : Lt P E o Z As (.string (a ++ b)) :=
  fun _ _ => r_pure _ (bin_run ho _ _ hx hy eqg_str fun w => by
    have h : ¬ (((a.size + b.size : Nat) : Int) > IntKind.i64.max) := by
      have : IntKind.i64.max = 9223372036854775807 := by decide
      rw [this]; omega
    simp only [binOp, Op.stringOp, if_neg h, Sem.run_pure])
/-! ### Integers of any kind, as they wrap -/
end
end Go.S
