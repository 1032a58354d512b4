/-
  Strings: concatenation, parts, bytes, length. No condition but those that each rule says.
-/
import Derived.Test.YtjdlkemmcnncaaaSQ
set_option linter.unusedSimpArgs false
set_option linter.unusedVariables false
namespace Go.S
open Go.Hp Go.J
section
variable {P : Program} {E : Env} {Z : Zone} {As : List Asr} {o : Oper}
theorem eqg_str {op : BinOp} {t : TypeId} {x y : Operand} {a b : ByteArray} (w : World) : (eqGuard op t x y (.string a) (.string b)).run P w = .ok () w := by
  unfold eqGuard; split <;> rfl
theorem t_cat {t u : TypeId} {x y : Operand} (a b : ByteArray) (hb : ((a.size : Int) + b.size) ≤ 9223372036854775807) (ho : o.op = .binOp .add t x y u := by rfl) (hx : ev E x = .string a := by rfl) (hy : ev E y = .string b := by rfl) : Lt P E o Z As (.string (a ++ b)) :=
  fun _ _ => r_pure _ (bin_run ho _ _ hx hy eqg_str fun w => by
    have h : ¬ (((a.size + b.size : Nat) : Int) > IntKind.i64.max) := by
      have : IntKind.i64.max = 9223372036854775807 := by decide
      rw [this]; omega
    simp only [binOp, Op.stringOp, if_neg h, Sem.run_pure])
theorem t_lenS {x : Operand} {t : TypeId} (ht : P.underlying t = some .string) (a : ByteArray) (ho : o.op = .call { callee := .builtin .len, args := #[x], argTypes := #[t] } := by rfl) (hx : ev E x = .string a := by rfl) : Lt P E o Z As (.int .i64 a.size) :=
  fun _ _ => r_pure _ fun w => by
    unfold execOp
    simp only [ho, resolve, invoke, builtin, Sem.run_bind, Sem.run_pure, Result.andThen_ok, List.map_toArray, List.map_cons, List.map_nil, hx]
    simp [Builtin.len_, run_underlying ht, Builtin.lenOf, goInt, Sem.run_pure, Sem.run_bind]
/-- s[l:h] -/
theorem run_sub {t : TypeId} (ht : P.underlying t = some .string) (a : ByteArray) (ql qh : IntKind) (l h : Int) (h0 : 0 ≤ l) (h1 : l ≤ h) (h2 : h ≤ a.size) (w : World) : (Instr.sliceAt t (.string a) (some (.int ql l)) (some (.int qh h)) none).run P w = .ok (.string (a.extract l.toNat h.toNat)) w := by
  have e1 : 0 ≤ h := by omega
  simp [Instr.sliceAt, Instr.slice, run_underlying ht, Instr.sliceBounds, Instr.sliceBound, asIntOf, h0, h1, h2, e1, Int.toNat_of_nonneg, Sem.run_pure, Sem.run_bind]
  intro hc; exfalso; omega
theorem run_subL {t : TypeId} (ht : P.underlying t = some .string) (a : ByteArray) (ql : IntKind) (l : Int) (h0 : 0 ≤ l) (h1 : l ≤ a.size) (w : World) : (Instr.sliceAt t (.string a) (some (.int ql l)) none none).run P w = .ok (.string (a.extract l.toNat a.size)) w := by
  simp [Instr.sliceAt, Instr.slice, run_underlying ht, Instr.sliceBounds, Instr.sliceBound, asIntOf, h0, h1, Sem.run_pure, Sem.run_bind]
theorem run_subH {t : TypeId} (ht : P.underlying t = some .string) (a : ByteArray) (qh : IntKind) (h : Int) (h0 : 0 ≤ h) (h1 : h ≤ a.size) (w : World) : (Instr.sliceAt t (.string a) none (some (.int qh h)) none).run P w = .ok (.string (a.extract 0 h.toNat)) w := by
  simp [Instr.sliceAt, Instr.slice, run_underlying ht, Instr.sliceBounds, Instr.sliceBound, asIntOf, h0, h1, Sem.run_pure, Sem.run_bind]
theorem t_subLH {t : TypeId} {x i j : Operand} {ql qh : IntKind} (ht : P.underlying t = some .string) (a : ByteArray) (l h : Int) (h0 : 0 ≤ l) (h1 : l ≤ h) (h2 : h ≤ a.size) (ho : o.op = .slice t x (some i) (some j) none := by rfl) (hx : ev E x = .string a := by rfl) (hi : ev E i = .int ql l := by rfl) (hj : ev E j = .int qh h := by rfl) : Lt P E o Z As (.string (a.extract l.toNat h.toNat)) :=
  fun _ _ => r_pure _ fun w => by
    unfold execOp
    simp only [ho, hx, hi, hj, Option.map_none, Option.map_some]
    exact Mem.run_v (run_sub ht a ql qh l h h0 h1 h2 w)
theorem t_subL {t : TypeId} {x i : Operand} {ql : IntKind} (ht : P.underlying t = some .string) (a : ByteArray) (l : Int) (h0 : 0 ≤ l) (h1 : l ≤ a.size) (ho : o.op = .slice t x (some i) none none := by rfl) (hx : ev E x = .string a := by rfl) (hi : ev E i = .int ql l := by rfl) : Lt P E o Z As (.string (a.extract l.toNat a.size)) :=
  fun _ _ => r_pure _ fun w => by
    unfold execOp
    simp only [ho, hx, hi, Option.map_none, Option.map_some]
    exact Mem.run_v (run_subL ht a ql l h0 h1 w)
theorem t_subH {t : TypeId} {x j : Operand} {qh : IntKind} (ht : P.underlying t = some .string) (a : ByteArray) (h : Int) (h0 : 0 ≤ h) (h1 : h ≤ a.size) (ho : o.op = .slice t x none (some j) none := by rfl) (hx : ev E x = .string a := by rfl) (hj : ev E j = .int qh h := by rfl) : Lt P E o Z As (.string (a.extract 0 h.toNat)) :=
  fun _ _ => r_pure _ fun w => by
    unfold execOp
    simp only [ho, hx, hj, Option.map_none, Option.map_some]
    exact Mem.run_v (run_subH ht a qh h h0 h1 w)
/-- s[i] -/
theorem t_idxS {t : TypeId} {x i : Operand} {q : IntKind} (ht : P.underlying t = some .string) (a : ByteArray) (k : Int) (b : UInt8) (h0 : 0 ≤ k) (hb : a[k.toNat]? = some b) (ho : o.op = .index t x i := by rfl) (hx : ev E x = .string a := by rfl) (hi : ev E i = .int q k := by rfl) : Lt P E o Z As (.int .u8 b.toNat) :=
  fun _ _ => r_pure _ fun w => by
    unfold execOp
    simp only [ho, hx, hi]
    exact Mem.run_v (by simp [Instr.index, asIntOf, run_underlying ht, h0, hb, Sem.run_pure, Sem.run_bind])
/-! ### Integers of any kind, as they wrap -/
theorem t_addK {t u : TypeId} {x y : Operand} {k : IntKind} (a b : Int) (ho : o.op = .binOp .add t x y u := by rfl) (hx : ev E x = .int k a := by rfl) (hy : ev E y = .int k b := by rfl) : Lt P E o Z As (.int k (k.wrap (a + b))) :=
  fun _ _ => r_pure _ (bin_run ho _ _ hx hy eqg_int fun w => by simp [binOp, Op.intArith, Sem.run_pure])
theorem t_subK {t u : TypeId} {x y : Operand} {k : IntKind} (a b : Int) (ho : o.op = .binOp .sub t x y u := by rfl) (hx : ev E x = .int k a := by rfl) (hy : ev E y = .int k b := by rfl) : Lt P E o Z As (.int k (k.wrap (a - b))) :=
  fun _ _ => r_pure _ (bin_run ho _ _ hx hy eqg_int fun w => by simp [binOp, Op.intArith, Sem.run_pure])
theorem t_mulK {t u : TypeId} {x y : Operand} {k : IntKind} (a b : Int) (ho : o.op = .binOp .mul t x y u := by rfl) (hx : ev E x = .int k a := by rfl) (hy : ev E y = .int k b := by rfl) : Lt P E o Z As (.int k (k.wrap (a * b))) :=
  fun _ _ => r_pure _ (bin_run ho _ _ hx hy eqg_int fun w => by simp [binOp, Op.intArith, Sem.run_pure])
theorem t_quoK {t u : TypeId} {x y : Operand} {k : IntKind} (a b : Int) (hb : b ≠ 0) (ho : o.op = .binOp .quo t x y u := by rfl) (hx : ev E x = .int k a := by rfl) (hy : ev E y = .int k b := by rfl) : Lt P E o Z As (.int k (k.wrap (a.tdiv b))) :=
  fun _ _ => r_pure _ (bin_run ho _ _ hx hy eqg_int fun w => by simp [binOp, Op.intDiv, hb, Sem.run_pure])
theorem t_negK {t : TypeId} {x : Operand} {k : IntKind} (a : Int) (ho : o.op = .unOp .neg t x := by rfl) (hx : ev E x = .int k a := by rfl) : Lt P E o Z As (.int k (k.wrap (-a))) :=
  fun _ _ => r_pure _ fun w => by
    unfold execOp
    simp [ho, hx, Op.unary, Op.intArith, Int.zero_sub, Sem.run_pure, Sem.run_bind]
theorem t_convK {s d : TypeId} {x : Operand} {k k' : IntKind} {ds : TypeDesc} (a : Int) (hs : P.underlying s = some ds) (hd : P.underlying d = some (.int k')) (ho : o.op = .convert s d x := by rfl) (hx : ev E x = .int k a := by rfl) : Lt P E o Z As (.int k' (k'.wrap a)) :=
  fun _ _ => r_pure _ fun w => by
    unfold execOp
    simp [ho, hx, convert, run_underlying hs, run_underlying hd, Conv.intToInt, Sem.run_pure, Sem.run_bind]
end
end Go.S
