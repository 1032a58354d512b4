/-
  'copy(dst, src)' of lists of elements. Condition: dst may be written from its block's head on.
-/
import Derived.Test.YtjdlkemmcnncaaaJH
set_option linter.unusedSimpArgs false
set_option linter.unusedVariables false
namespace Go.J
open Go.Hp
open Go.Mem (Ty blk)
section
variable {P : Program} {w0 : World} {ops : Array Oper} {Q : Exit → Act → World → Prop} {n : Nat} {E : Env} {H : Heap} {o : Oper} {rest : List Oper} {α : Type} {T : Ty α} {v : Value} {L M : List α} {w : World}
theorem run_copy (hT : T.Ok P) {dT sT ty : TypeId} (ht : P.underlying dT = some (.slice T.id)) {v2 : Value} (hv : Mem.Ow w T v L) (h2 : Mem.Sl w T v2 M) :
    ∃ w', (Builtin.copy_ #[dT, sT] ty #[v, v2]).run P w = .ok (.int .i64 (min M.length L.length : Nat)) w' ∧ Mem.Ow w' T v (M.take L.length ++ L.drop M.length) ∧ Mem.Chg (fun k => blk v = some k) w w' ∧ w'.heap.size = w.heap.size := by
  obtain ⟨i, hi, hsz, hby, hz⟩ := hT.info
  have hlenL := hT.flat_len L
  have hlenM := hT.flat_len M
  have hn : Nat.min M.length L.length = min M.length L.length := rfl
  rcases h2 with ⟨⟨p2, rfl⟩, rfl⟩ | ⟨g2, off2, cap2, arr2, e2, fr2, rfl, hg2, hc2, hm2, hf2, hr2⟩
  · refine ⟨w, ?_, by simpa using hv, Mem.Chg.refl _ _, rfl⟩
    rcases hv with ⟨rfl, rfl⟩ | ⟨g, cap, arr, rfl, hg, hc, hm, hf, hr⟩
    · cases p2 <;> simp [Builtin.copy_, run_underlying ht, Builtin.lenOf, Builtin.firstCells, loadCells, loadCellsFrom, sizeOf, typeInfo, hi, goInt]
    · cases p2 <;> simp [Builtin.copy_, run_underlying ht, Builtin.lenOf, Builtin.firstCells, loadCells, loadCellsFrom, sizeOf, typeInfo, hi, storeCells, goInt]
  · have hcs : ∀ j u, ((T.flat M).take (min M.length L.length * T.size))[j]? = some u → w.cell? ((⟨g2, off2, none⟩ : Addr).add j) = some u := by
      intro j u hj
      rw [List.getElem?_take] at hj
      split at hj
      · rw [← hr2, List.getElem?_take] at hj
        split at hj
        · rw [List.getElem?_drop] at hj
          rw [Mem.addr_add, cell_of_row w g2 _ arr2 e2 fr2 hg2, ← Array.getElem?_toList]; exact hj
        · cases hj
      · cases hj
    have hlm : min M.length L.length * T.size ≤ M.length * T.size := Nat.mul_le_mul_right _ (Nat.min_le_left _ _)
    have hll : min M.length L.length * T.size ≤ L.length * T.size := Nat.mul_le_mul_right _ (Nat.min_le_right _ _)
    have hcl : ((T.flat M).take (min M.length L.length * T.size)).length = min M.length L.length * T.size := by rw [List.length_take, hlenM]; omega
    have hload := run_loadCells_list (P := P) w ⟨g2, off2, none⟩ _ hcs
    rw [hcl] at hload
    rcases hv with ⟨rfl, rfl⟩ | ⟨g, cap, arr, rfl, hg, hc, hm, hf, hr⟩
    · refine ⟨w, ?_, by simp [Mem.Ow], Mem.Chg.refl _ _, rfl⟩
      simp only [List.length_nil, Nat.min_zero, Nat.zero_mul, List.take_zero] at hload
      simp [Builtin.copy_, run_underlying ht, Builtin.lenOf, Builtin.firstCells, sizeOf, typeInfo, hi, goInt, hload]
    · have hcap : L.length * T.size ≤ cap * T.size := Nat.mul_le_mul_right _ hc
      have hst := run_storeCells_at P g 0 T.id ((T.flat M).take (min M.length L.length * T.size)) 0 arr w hg (by rw [hcl]; omega) (fun u hu => hT.flat_one1 M u (List.mem_of_mem_take hu))
      have hlen2 : (M.take L.length ++ L.drop M.length).length = L.length := by simp; omega
      simp only [Nat.zero_add, List.take_zero, List.nil_append, hcl] at hst
      refine ⟨w.setRow g ((T.flat M).take (min M.length L.length * T.size) ++ arr.toList.drop (min M.length L.length * T.size)).toArray, ?_, .inr ⟨g, cap, ((T.flat M).take (min M.length L.length * T.size) ++ arr.toList.drop (min M.length L.length * T.size)).toArray, by rw [hlen2], setRow_heap w g arr _ T.id _ hg, by rw [hlen2]; exact hc, hm, ?_, ?_⟩, ⟨rfl, rfl, rfl, by simp, fun b _ hb => setRow_other w g b _ fun e => hb (by simp [blk, Value.ownBlock, e])⟩, by simp⟩
      · simp only [Builtin.copy_, Sem.run_bind, run_underlying ht, Result.andThen_ok, Builtin.lenOf, Sem.run_pure, sizeOf, typeInfo, program, Sem.run, hi, Builtin.firstCells, hsz, hn, hload, hst, goInt, List.getElem?_toArray, List.getElem?_cons_zero, List.getElem?_cons_succ]
      · simp only [List.size_toArray, List.length_append, List.length_drop, hcl, Array.length_toList]
        omega
      · rw [hlen2, hT.flat_take, List.take_append, Ty.flat_append]
        have e1 : (T.flat (M.take (min M.length L.length))).length = min M.length L.length * T.size := by rw [hT.flat_len, List.length_take]; congr 1; omega
        rw [e1, List.take_of_length_le (by rw [e1]; exact hll), show M.take (min M.length L.length) = M.take L.length by rw [List.take_eq_take_iff]; omega]
        congr 1
        have e2 : L.drop M.length = L.drop (min M.length L.length) := by
          by_cases h : M.length ≤ L.length
          · rw [Nat.min_eq_left h]
          · rw [Nat.min_eq_right (by omega), List.drop_length, List.drop_of_length_le (by omega)]
        rw [e2, ← hT.flat_drop, ← hr, List.drop_take]
theorem l_copy {s x : Operand} {t t' : TypeId} (ho : o.op = .call { callee := .builtin .copy, args := #[s, x], argTypes := #[t, t'] }) (hT : T.Ok P) (ht : P.underlying t = some (.slice T.id)) (v2 : Value) (hk : okOp ops n E o = true) (hs : ev E s = v) (hx : ev E x = v2) (hv : Ow H T v L) (h2 : Sl H T v2 M)
    (h : ∀ H', Ow H' T v (M.take L.length ++ L.drop M.length) → Chg (fun k => blk v = some k) H H' → H'.size = H.size → JL P w0 ops Q n rest (put E o.dst (.int .i64 (min M.length L.length : Nat))) H') : JL P w0 ops Q n (o :: rest) E H := by
  refine l_run (R := fun v' H' => v' = .int .i64 (min M.length L.length : Nat) ∧ Ow H' T v (M.take L.length ++ L.drop M.length) ∧ Chg (fun k => blk v = some k) H H' ∧ H'.size = H.size) hk (fun w ha => ?_) (fun v' H' ⟨a1, a2, a3, a4⟩ => by subst a1; exact h H' a2 a3 a4)
  have hv' : Mem.Ow w T v L := by have := hv; rw [← ha.heap] at this; exact this
  have h2' : Mem.Sl w T v2 M := by have := h2; rw [← ha.heap] at this; exact this
  obtain ⟨w', hr, q1, q2, q3⟩ := run_copy (ty := o.type) (sT := t') hT ht hv' h2'
  refine ⟨_, w', ?_, ⟨rfl, q2.os.trans ha.os, q2.tape.trans ha.tape, q2.output.trans ha.output⟩, rfl, q1, ?_, ?_⟩
  · unfold execOp
    simp only [ho, resolve, invoke, builtin, Sem.run_bind, Sem.run_pure, Result.andThen_ok, List.map_toArray, List.map_cons, List.map_nil, hs, hx, hr]
  · rw [← ha.heap]; exact Chg.of_mem q2
  · rw [← ha.heap]; exact q3
theorem r_min {x y : Operand} {ts : Array TypeId} (ho : o.op = .call { callee := .builtin .min, args := #[x, y], argTypes := ts }) (k : IntKind) (a b : Int) (hx : ev E x = .int k a) (hy : ev E y = .int k b) : Light P E o H (.int k (if b < a then b else a)) :=
  ⟨fun w _ => by
    unfold execOp
    simp only [ho, resolve, invoke, builtin, Sem.run_bind, Sem.run_pure, Result.andThen_ok, List.map_toArray, List.map_cons, List.map_nil, hx, hy, Builtin.min_, List.foldlM_cons, List.foldlM_nil, Builtin.min2]⟩
theorem r_max {x y : Operand} {ts : Array TypeId} (ho : o.op = .call { callee := .builtin .max, args := #[x, y], argTypes := ts }) (k : IntKind) (a b : Int) (hx : ev E x = .int k a) (hy : ev E y = .int k b) : Light P E o H (.int k (if a < b then b else a)) :=
  ⟨fun w _ => by
    unfold execOp
    simp only [ho, resolve, invoke, builtin, Sem.run_bind, Sem.run_pure, Result.andThen_ok, List.map_toArray, List.map_cons, List.map_nil, hx, hy, Builtin.max_, List.foldlM_cons, List.foldlM_nil, Builtin.max2]⟩
theorem l_min {x y : Operand} {ts : Array TypeId} (ho : o.op = .call { callee := .builtin .min, args := #[x, y], argTypes := ts }) (k : IntKind) (a b : Int) (hk : okOp ops n E o = true) (hx : ev E x = .int k a) (hy : ev E y = .int k b)
    (h : JL P w0 ops Q n rest (put E o.dst (.int k (if b < a then b else a))) H) : JL P w0 ops Q n (o :: rest) E H := l_read _ hk (r_min ho k a b hx hy).run h
theorem l_max {x y : Operand} {ts : Array TypeId} (ho : o.op = .call { callee := .builtin .max, args := #[x, y], argTypes := ts }) (k : IntKind) (a b : Int) (hk : okOp ops n E o = true) (hx : ev E x = .int k a) (hy : ev E y = .int k b)
    (h : JL P w0 ops Q n rest (put E o.dst (.int k (if a < b then b else a))) H) : JL P w0 ops Q n (o :: rest) E H := l_read _ hk (r_max ho k a b hx hy).run h
end
end Go.J
