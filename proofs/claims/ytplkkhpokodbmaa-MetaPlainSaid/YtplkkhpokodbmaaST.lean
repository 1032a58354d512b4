/-
  Strings: concatenation, parts, bytes, length. No condition but those that each rule says.
-/
import Derived.Test.YtplkkhpokodbmaaSQ
set_option linter.unusedSimpArgs false
set_option linter.unusedVariables false
namespace Go.S
open Go.Hp Go.J
section
variable {P : Program} {E : Env} {Z : Zone} {As : List Asr} {o : Oper}
theorem eqg_str {op : BinOp} {t : TypeId} {x y : Operand} {a b : ByteArray} (w : World) : (eqGuard op t x y (.string a) (.string b)).run P w = .ok () w := by
  unfold eqGuard; split <;> rfl
theorem t_cat {t u : TypeId} {x y : Operand} (a b : ByteArray) (hb : ((a.size : Int) + b.size) ≤ 9223372036854775807) (ho : o.op = .binOp .add t x y u := by rfl) (hx : ev E x = .string a := by rfl) (hy : ev E y = .string b := by rfl) : Lt P E o Z As (.string (a ++ b)) :=
  fun _ _ => r_pure _ (bin_run ho _ _ hx hy eqg_str fun w => by
    have h : ¬ (((a.size + b.size : Nat) : Int) > IntKind.i64.max) := by
      have : IntKind.i64.max = 9223372036854775807 := by decide
      rw [this]; omega
    simp only [binOp, Op.stringOp, if_neg h, Sem.run_pure])
/-- s[i] -/
theorem t_idxS {t : TypeId} {x i : Operand} {q : IntKind} (ht : P.underlying t = some .string) (a : ByteArray) (k : Int) (b : UInt8) (h0 : 0 ≤ k) (hb : a[k.toNat]? = some b) (ho : o.op = .index t x i := by rfl) (hx : ev E x = .string a := by rfl) (hi : ev E i = .int q k := by rfl) : Lt P E o Z As (.int .u8 b.toNat) :=
  fun _ _ => r_pure _ fun w => by
    unfold execOp
    simp only [ho, hx, hi]
    exact Mem.run_v (by simp [Instr.index, asIntOf, run_underlying ht, h0, hb, Sem.run_pure, Sem.run_bind])
/-! ### Integers of any kind, as they wrap -/
end
end Go.S
