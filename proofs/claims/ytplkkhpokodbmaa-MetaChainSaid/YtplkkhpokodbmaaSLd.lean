/-
  Parts that are lent to a call, which reads them; results that hold what the zone knows. No condition but those that each rule says.
-/
import Derived.Test.YtplkkhpokodbmaaSR
set_option linter.unusedSimpArgs false
set_option linter.unusedVariables false
namespace Go.S
open Go.Hp Go.J
open Go.Mem (Ty KTy blk)
def ZOk (Z : Zone) (H : Heap) : Prop := ∀ k, Z.dom k → H[k]? = Z.heap[k]? ∧ k < H.size
/-- The zone Z' knows what Z knows, and the part K. -/
structure Lend (Z Z' : Zone) (K : Asr) : Prop where
  sub : ∀ H, ZOk Z' H → ZOk Z H
  has : ∀ H, ZOk Z' H → ∃ S, K.on H S
section
variable {P : Program} {Z Z' : Zone} {As As0 Bs : List Asr} {H H' : Heap} {K : Asr} {α : Type} {T : Ty α} {v : Value} {L : List α} {F : Heap → Prop}
theorem Lend.own (h : Lend Z Z' (own T v L)) : Kn Z' T v L := fun H hz => by
  obtain ⟨S, hS⟩ := h.has H hz; exact hS.1.sl
variable {w0 : World} {ops : Array Oper} {Q : Exit → Act → World → Prop} {n : Nat} {E : Env} {o : Oper} {rest : List Oper} {f : FuncId} {xs : Array Operand} {ts : Array TypeId} {vals : List Value} {R : Value → List Asr → Prop}
end
end Go.S
