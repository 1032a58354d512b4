/-
  Bits of integers. No condition but those that each rule says.
-/
import Derived.Test.YtjdlkemmcnncaaaSP
set_option linter.unusedSimpArgs false
set_option linter.unusedVariables false
namespace Go.S
open Go.Hp Go.J
def andI (k : IntKind) (a b : Int) : Int := k.wrap ((BitVec.ofInt k.bits a &&& BitVec.ofInt k.bits b).toNat : Int)
def orI (k : IntKind) (a b : Int) : Int := k.wrap ((BitVec.ofInt k.bits a ||| BitVec.ofInt k.bits b).toNat : Int)
section
variable {P : Program} {E : Env} {Z : Zone} {As : List Asr} {o : Oper}
theorem t_and {t u : TypeId} {x y : Operand} {k : IntKind} (a b : Int) (ho : o.op = .binOp .and t x y u := by rfl) (hx : ev E x = .int k a := by rfl) (hy : ev E y = .int k b := by rfl) : Lt P E o Z As (.int k (andI k a b)) :=
  fun _ _ => r_pure _ (bin_run ho _ _ hx hy eqg_int fun w => by simp [binOp, Op.intBits, andI, Sem.run_pure])
theorem t_or {t u : TypeId} {x y : Operand} {k : IntKind} (a b : Int) (ho : o.op = .binOp .or t x y u := by rfl) (hx : ev E x = .int k a := by rfl) (hy : ev E y = .int k b := by rfl) : Lt P E o Z As (.int k (orI k a b)) :=
  fun _ _ => r_pure _ (bin_run ho _ _ hx hy eqg_int fun w => by simp [binOp, Op.intBits, orI, Sem.run_pure])
end
theorem and_one {w : Int} (h : 0 ≤ w ∧ w ≤ 3) : andI .i64 w 1 = if w = 1 ∨ w = 3 then 1 else 0 := by
  have : w = 0 ∨ w = 1 ∨ w = 2 ∨ w = 3 := by omega
  rcases this with rfl | rfl | rfl | rfl <;> rfl
theorem and_two {w : Int} (h : 0 ≤ w ∧ w ≤ 3) : andI .i64 w 2 = if w = 2 ∨ w = 3 then 2 else 0 := by
  have : w = 0 ∨ w = 1 ∨ w = 2 ∨ w = 3 := by omega
  rcases this with rfl | rfl | rfl | rfl <;> rfl
end Go.S
