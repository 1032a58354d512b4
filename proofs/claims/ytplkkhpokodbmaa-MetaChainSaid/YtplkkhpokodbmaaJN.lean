/-
  'copy(dst, src)' of lists of elements. Condition: dst may be written from its block's head on.
-/
import Derived.Test.YtplkkhpokodbmaaJH
set_option linter.unusedSimpArgs false
set_option linter.unusedVariables false
namespace Go.J
open Go.Hp
open Go.Mem (Ty blk)
section
variable {P : Program} {w0 : World} {ops : Array Oper} {Q : Exit → Act → World → Prop} {n : Nat} {E : Env} {H : Heap} {o : Oper} {rest : List Oper} {α : Type} {T : Ty α} {v : Value} {L M : List α} {w : World}
theorem r_max {x y : Operand} {ts : Array TypeId} (ho : o.op = .call { callee := .builtin .max, args := #[x, y], argTypes := ts }) (k : IntKind) (a b : Int) (hx : ev E x = .int k a) (hy : ev E y = .int k b) : Light P E o H (.int k (if a < b then b else a)) :=
  ⟨fun w _ => by
    unfold execOp
    simp only [ho, resolve, invoke, builtin, Sem.run_bind, Sem.run_pure, Result.andThen_ok, List.map_toArray, List.map_cons, List.map_nil, hx, hy, Builtin.max_, List.foldlM_cons, List.foldlM_nil, Builtin.max2]⟩
end
end Go.J
