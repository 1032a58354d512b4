/-
  Integers and truth values as elements of slices. No condition but those that each law says.
-/
import Derived.Test.YtjdlkemmcnncaaaSR
set_option linter.unusedSimpArgs false
set_option linter.unusedVariables false
namespace Go.S
open Go.Hp Go.J
open Go.Mem (Ty KTy blk aggDesc)
def iT (e : TypeId) : Ty Int := ⟨e, 1, 8, false, fun n => .int .i64 n, 0⟩
section
variable {P : Program}
theorem iT_ok {e : TypeId} {i : TypeInfo} (hd : P.underlying e = some (.int .i64)) (hi : P.info? e = some i) (hs : i.size = 1) (hb : i.bytes = 8) (hz : i.zero = some (.int .i64 0)) : (iT e).Ok P :=
  ⟨Nat.one_pos, fun _ => rfl, fun x u hu => by simp [Ty.enc, iT, Value.cells] at hu; subst hu; rfl, fun _ => rfl, ⟨_, hd, rfl⟩, fun _ => rfl, ⟨i, hi, hs, hb, hz⟩⟩
theorem flat_int {e : TypeId} (L : List Int) : (iT e).flat L = L.map fun n => Value.int .i64 n := by
  induction L with
  | nil => rfl
  | cons a r ih => rw [show a :: r = [a] ++ r from rfl, Ty.flat_append, ih]; rfl
def bT (e : TypeId) : Ty Bool := ⟨e, 1, 1, false, fun b => .bool b, false⟩
theorem bT_ok {e : TypeId} {i : TypeInfo} (hd : P.underlying e = some .bool) (hi : P.info? e = some i) (hs : i.size = 1) (hb : i.bytes = 1) (hz : i.zero = some (.bool false)) : (bT e).Ok P :=
  ⟨Nat.one_pos, fun _ => rfl, fun x u hu => by simp [Ty.enc, bT, Value.cells] at hu; subst hu; rfl, fun _ => rfl, ⟨_, hd, rfl⟩, fun _ => rfl, ⟨i, hi, hs, hb, hz⟩⟩
end
end Go.S
