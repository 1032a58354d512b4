/-
  More operations that only read: quotients, remainders, negation, conversions of integers. No condition but those that each rule says.
-/
import Derived.Test.YtjdlkemmcnncaaaSC
set_option linter.unusedSimpArgs false
set_option linter.unusedVariables false
namespace Go.S
open Go.Hp Go.J
section
variable {P : Program} {E : Env} {Z : Zone} {As : List Asr} {o : Oper}
theorem t_rem {t u : TypeId} {x y : Operand} {k : IntKind} (a b : Int) (hb : b ≠ 0) (ho : o.op = .binOp .rem t x y u := by rfl) (hx : ev E x = .int k a := by rfl) (hy : ev E y = .int k b := by rfl) : Lt P E o Z As (.int k (a.tmod b)) :=
  fun _ _ => r_pure _ (bin_run ho _ _ hx hy eqg_int fun w => by simp [binOp, Op.intDiv, hb, Sem.run_pure])
theorem t_quo {t u : TypeId} {x y : Operand} (a b : Int) (hb : b ≠ 0) (hr : -9223372036854775808 ≤ a.tdiv b ∧ a.tdiv b ≤ 9223372036854775807) (ho : o.op = .binOp .quo t x y u := by rfl) (hx : ev E x = .int .i64 a := by rfl) (hy : ev E y = .int .i64 b := by rfl) : Lt P E o Z As (.int .i64 (a.tdiv b)) :=
  fun _ _ => r_pure _ (bin_run ho _ _ hx hy eqg_int fun w => by simp [binOp, Op.intDiv, hb, wrap64 hr, Sem.run_pure])
theorem t_neg {t : TypeId} {x : Operand} (a : Int) (hr : -9223372036854775808 ≤ -a ∧ -a ≤ 9223372036854775807) (ho : o.op = .unOp .neg t x := by rfl) (hx : ev E x = .int .i64 a := by rfl) : Lt P E o Z As (.int .i64 (-a)) :=
  fun _ _ => r_pure _ fun w => by
    unfold execOp
    simp [ho, hx, Op.unary, Op.intArith, Int.zero_sub, wrap64 hr, Sem.run_pure, Sem.run_bind]
theorem t_conv {s d : TypeId} {x : Operand} {k k' : IntKind} {ds : TypeDesc} (a : Int) (hw : k'.wrap a = a) (hs : P.underlying s = some ds) (hd : P.underlying d = some (.int k')) (ho : o.op = .convert s d x := by rfl) (hx : ev E x = .int k a := by rfl) : Lt P E o Z As (.int k' a) :=
  fun _ _ => r_pure _ fun w => by
    unfold execOp
    simp [ho, hx, convert, run_underlying hs, run_underlying hd, Conv.intToInt, hw, Sem.run_pure, Sem.run_bind]
end
end Go.S
