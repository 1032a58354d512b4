/-
  The walk's laws for slices: 'len', an index, a load, a store, a cut, 'append', 'make', 'copy'. Each law says its conditions.
-/
import Derived.Test.YtjdlkemmcnncaaaMemA
set_option linter.unusedSimpArgs false
set_option linter.unusedVariables false
namespace Go.Mem
open Go.RowKit
section
variable {P : Program} {ops : Array Oper} {Q : Exit → Act → World → Prop} {a : Act} {w : World} {rest : List Oper} {o : Oper}
/-- An operation whose run is known. -/
theorem wpList_run {v : Value} {w' : World} (hw : Region.wanted o (yielded ops a.tmps) = true) (hr : (execOp a.eval o).run P w = .ok (.value v) w') (h : wpList P ops Q rest (a.put o.dst v) w') : wpList P ops Q (o :: rest) a w := by
  unfold wpList
  rw [if_pos hw]
  exact .inl (by unfold Oper.wp; rw [hr]; exact h)
theorem wpList_runs {w' : World} (hw : Region.wanted o (yielded ops a.tmps) = true) (hr : (execOp a.eval o).run P w = .ok .skip w') (h : wpList P ops Q rest (a.put o.dst undef) w') : wpList P ops Q (o :: rest) a w := by
  unfold wpList
  rw [if_pos hw]
  exact .inl (by unfold Oper.wp; rw [hr]; exact h)
theorem run_v {s : Sem Value} {v : Value} {w' : World} (h : s.run P w = .ok v w') : (do pure (Next.value (← s)) : Sem Next).run P w = .ok (.value v) w' := by
  rw [Sem.run_bind, h, Result.andThen_ok]; rfl
theorem run_u {s : Sem Unit} {w' : World} (h : s.run P w = .ok () w') : (do s; pure Next.skip : Sem Next).run P w = .ok .skip w' := by
  rw [Sem.run_bind, h, Result.andThen_ok]; rfl

variable {α : Type} {T : Ty α} {v : Value} {L : List α}
theorem Ty.Ok.run_sizeOf (hT : T.Ok P) (w : World) : (Go.sizeOf T.id).run P w = .ok T.size w := by
  obtain ⟨i, hi, hs, _⟩ := hT.info
  simp [Go.sizeOf, typeInfo, hi, hs]
theorem run_len (hv : Sl w T v L) {t e ty : TypeId} (ht : P.underlying t = some (.slice e)) : (Builtin.len_ #[t] ty #[v]).run P w = .ok (.int .i64 L.length) w := by
  obtain ⟨p, cap, rfl⟩ := hv.form
  simp [Builtin.len_, run_underlying ht, goInt]
/-- For the walk: 'len' of a slice that is a letter, in whatever world. -/
theorem Sl.lens (hv : Sl w T v L) {t e : TypeId} (ht : P.underlying t = some (.slice e)) : ∀ (W : World) (ty : TypeId), (Builtin.len_ #[t] ty #[v]).run P W = .ok (.int .i64 L.length) W := by
  intro W ty
  obtain ⟨p, cap, rfl⟩ := hv.form
  simp [Builtin.len_, run_underlying ht, goInt]
theorem wp_len (hw : Region.wanted o (yielded ops a.tmps) = true) (x : Operand) (t e : TypeId) (ho : o.op = .call { callee := .builtin .len, args := #[x], argTypes := #[t] }) (ht : P.underlying t = some (.slice e))
    (hx : a.eval x = v) (hv : Sl w T v L) (h : wpList P ops Q rest (a.put o.dst (.int .i64 L.length)) w) : wpList P ops Q (o :: rest) a w := by
  refine wpList_run hw ?_ h
  unfold execOp
  simp only [ho, resolve, invoke, builtin, Sem.run_bind, Sem.run_pure, Result.andThen_ok, List.map_toArray, List.map_cons, List.map_nil, hx, run_len hv ht]

theorem run_index (hv : Sl w T v L) (hT : T.Ok P) {t : TypeId} (ht : P.underlying t = some (.slice T.id)) {k : Nat} (hk : k < L.length) (q : IntKind) :
    (Instr.indexAt t v (.int q k)).run P w = .ok (.pointer (some (elemAt T.size v k))) w := by
  rcases hv with ⟨_, rfl⟩ | ⟨g, off, cap, arr, e, fr, rfl, h1, h2, h3, h4, h5⟩
  · simp at hk
  · have : (k : Int) < (L.length : Int) := by omega
    simp [Instr.indexAt, asIntOf, run_underlying ht, this, hT.run_sizeOf, elemAt]
    omega
theorem wp_index (hw : Region.wanted o (yielded ops a.tmps) = true) (x i : Operand) (t : TypeId) (ho : o.op = .indexAddr t x i) (hT : T.Ok P) (ht : P.underlying t = some (.slice T.id))
    (q : IntKind) (n : Int) (hx : a.eval x = v) (hi : a.eval i = .int q n) (hv : Sl w T v L) (h0 : 0 ≤ n) (hn : n < L.length)
    (h : wpList P ops Q rest (a.put o.dst (.pointer (some (elemAt T.size v n.toNat)))) w) : wpList P ops Q (o :: rest) a w := by
  refine wpList_run hw ?_ h
  have e : n = (n.toNat : Int) := by omega
  unfold execOp
  simp only [ho, hx, hi]
  rw [e]
  exact run_v (run_index hv hT ht (by omega) q)

theorem run_loadElem (hv : Sl w T v L) (hT : T.Ok P) {k : Nat} {x : α} (hk : L[k]? = some x) :
    (Instr.loadAt T.id (.pointer (some (elemAt T.size v k)))).run P w = .ok (T.val x) w := by
  obtain ⟨d, hd, hagg⟩ := hT.desc
  have hsp := hv.elem_spot (List.getElem?_eq_some_iff.1 hk).1
  have hadd0 : ∀ p : Addr, p.add 0 = p := fun p => by simp [Addr.add]
  have hia : (isAgg T.id).run P w = .ok T.agg w := by
    unfold isAgg
    rw [Sem.run_bind, run_underlying hd, Result.andThen_ok, ← hagg]
    cases d <;> rfl
  unfold Instr.loadAt Instr.sureAddr loadVar
  rw [Sem.run_bind, Sem.run_pure, Result.andThen_ok, Sem.run_bind, hia, Result.andThen_ok, hT.val x]
  cases hg : T.agg with
  | true =>
    simp only [if_true]
    have hl := run_loadCells_list (P := P) w (elemAt T.size v k) (T.enc x) (fun j u hj => hv.cell hT hk hj)
    rw [hT.len x] at hl
    simp [hT.run_sizeOf, hl]
  | false =>
    have h1 := hT.one1 hg
    have hl := hT.len x
    rw [h1] at hl
    obtain ⟨u, hu⟩ := List.length_eq_one_iff.1 hl
    have := hv.cell hT hk (j := 0) (u := u) (by rw [hu]; rfl)
    rw [hadd0] at this
    simp [load, Sem.run, this, hu]
/-- A load of a whole element. -/
theorem wp_loadElem (hw : Region.wanted o (yielded ops a.tmps) = true) (p : Operand) (ho : o.op = .load T.id p) (hT : T.Ok P) (k : Nat) (x : α) (hp : a.eval p = .pointer (some (elemAt T.size v k))) (hv : Sl w T v L) (hk : L[k]? = some x)
    (h : wpList P ops Q rest (a.put o.dst (T.val x)) w) : wpList P ops Q (o :: rest) a w := by
  refine wpList_run hw ?_ h
  unfold execOp
  simp only [ho, hp]
  exact run_v (run_loadElem hv hT hk)
/-- A load of one cell of an element. -/
theorem wp_loadField (hw : Region.wanted o (yielded ops a.tmps) = true) (p : Operand) (t : TypeId) (d : TypeDesc) (ho : o.op = .load t p) (hd : P.underlying t = some d) (hda : aggDesc d = false) (hT : T.Ok P) (k j : Nat) (x : α) (u : Value)
    (hp : a.eval p = .pointer (some ((elemAt T.size v k).add j))) (hv : Sl w T v L) (hk : L[k]? = some x) (hj : (T.enc x)[j]? = some u)
    (h : wpList P ops Q rest (a.put o.dst u) w) : wpList P ops Q (o :: rest) a w := by
  refine wpList_run hw ?_ h
  unfold execOp
  simp only [ho, hp]
  refine run_v ?_
  have hia : (isAgg t).run P w = .ok false w := by
    unfold isAgg
    rw [Sem.run_bind, run_underlying hd, Result.andThen_ok]
    cases d <;> first | rfl | (simp [aggDesc] at hda)
  unfold Instr.loadAt Instr.sureAddr loadVar
  rw [Sem.run_bind, Sem.run_pure, Result.andThen_ok, Sem.run_bind, hia, Result.andThen_ok]
  simp [load, Sem.run, hv.cell hT hk hj]

/-! ### A store into an element -/
def spliceAt (l : List Value) (j : Nat) (cs : List Value) : List Value := l.take j ++ cs ++ l.drop (j + cs.length)
theorem Ty.Ok.flat_set (hT : T.Ok P) : ∀ {L : List α} {k : Nat} {x x' : α} {j : Nat} {cs : List Value}, L[k]? = some x → j + cs.length ≤ T.size → T.enc x' = spliceAt (T.enc x) j cs →
    T.flat (L.set k x') = spliceAt (T.flat L) (k * T.size + j) cs
  | [], k, x, x', j, cs, hk, _, _ => by simp at hk
  | y :: r, 0, x, x', j, cs, hk, hj, he => by
    simp only [List.getElem?_cons_zero, Option.some.injEq] at hk
    subst hk
    have hl := hT.len y
    unfold Ty.flat spliceAt at *
    simp only [List.set_cons_zero, List.flatMap_cons, he, Nat.zero_mul, Nat.zero_add]
    rw [List.take_append_of_le_length (by omega), List.drop_append_of_le_length (by omega)]
    simp
  | y :: r, k + 1, x, x', j, cs, hk, hj, he => by
    simp only [List.getElem?_cons_succ] at hk
    have ih := hT.flat_set hk hj he
    have hl := hT.len y
    unfold Ty.flat spliceAt at *
    simp only [List.set_cons_succ, List.flatMap_cons, ih]
    have e1 : (k + 1) * T.size + j = (T.enc y).length + (k * T.size + j) := by rw [hl, Nat.add_mul]; omega
    have e2 : (k + 1) * T.size + j + cs.length = (T.enc y).length + (k * T.size + j + cs.length) := by rw [e1]; omega
    rw [e2, e1, List.take_length_add_append, List.drop_length_add_append]
    simp
theorem take_splice (l : List Value) (n p : Nat) (cs : List Value) (h : p + cs.length ≤ n) (hn : n ≤ l.length := by simp; omega) : (l.take p ++ cs ++ l.drop (p + cs.length)).take n = spliceAt (l.take n) p cs := by
  unfold spliceAt
  apply List.ext_getElem?
  intro i
  rw [List.getElem?_take]
  split
  · rw [List.getElem?_append, List.getElem?_append, List.getElem?_append, List.getElem?_append]
    simp only [List.length_append, List.length_take, List.getElem?_take, List.getElem?_drop, Nat.min_def]
    grind
  · rw [List.getElem?_append_right (by simp; omega)]
    simp
    omega
theorem run_storePart (hv : Ow w T v L) (hT : T.Ok P) {k j : Nat} {x x' : α} {cs : List Value} (hk : L[k]? = some x) (hj : j + cs.length ≤ T.size) (h1 : ∀ u ∈ cs, u.oneCell' = true) (he : T.enc x' = spliceAt (T.enc x) j cs) :
    ∃ w', (storeCells ((elemAt T.size v k).add j) cs).run P w = .ok () w' ∧ Ow w' T v (L.set k x') ∧ Chg (fun b => blk v = some b) w w' := by
  rcases hv with ⟨rfl, rfl⟩ | ⟨g, cap, arr, rfl, hg, h2, h3, h4, h5⟩
  · simp at hk
  · have hkl : k < L.length := (List.getElem?_eq_some_iff.1 hk).1
    have hlen := hT.flat_len L
    have hbound : (k + 1) * T.size ≤ L.length * T.size := Nat.mul_le_mul_right _ hkl
    have hcap : L.length * T.size ≤ cap * T.size := Nat.mul_le_mul_right _ h2
    rw [Nat.add_mul] at hbound
    have hst := run_storeCells_at P g (k * T.size + j) T.id cs 0 arr w hg (by omega) h1
    refine ⟨w.setRow g (List.take (k * T.size + j + 0) arr.toList ++ cs ++ List.drop (k * T.size + j + 0 + cs.length) arr.toList).toArray, ?_, ?_, ?_⟩
    · simp only [elemAt, addr_add, Nat.zero_add]; exact hst
    · refine .inr ⟨g, cap, _, by simp, setRow_heap w g arr _ T.id _ hg, by simpa using h2, h3, ?_, ?_⟩
      · simp; omega
      · simp only [Nat.add_zero, List.toList_toArray, List.length_set]
        rw [hT.flat_set hk hj he, ← h5]
        exact take_splice _ _ _ _ (by omega)
    · exact ⟨rfl, rfl, rfl, by simp, fun b _ hb => setRow_other w g b _ fun e => hb (by simp [blk, Value.ownBlock, e])⟩
/-- A store of cells into an element. -/
theorem wp_storePart (hw : Region.wanted o (yielded ops a.tmps) = true) (t : TypeId) (p y : Operand) (ho : o.op = .store t p y) (hT : T.Ok P) (k j : Nat) (x x' : α) (u : Value) (i : TypeInfo)
    (hp : a.eval p = .pointer (some ((elemAt T.size v k).add j))) (hy : a.eval y = u) (hi : P.info? t = some i) (hs : u.cells.size = i.size) (hv : Ow w T v L) (hk : L[k]? = some x) (hj : j + u.cells.size ≤ T.size) (h1 : ∀ c ∈ u.cells.toList, c.oneCell' = true) (he : T.enc x' = spliceAt (T.enc x) j u.cells.toList)
    (h : ∀ w', Ow w' T v (L.set k x') → Chg (fun b => blk v = some b) w w' → wpList P ops Q rest (a.put o.dst undef) w') : wpList P ops Q (o :: rest) a w := by
  obtain ⟨w', hr, h2, h3⟩ := run_storePart (P := P) hv hT hk (by simpa using hj) h1 he
  refine wpList_runs hw ?_ (h w' h2 h3)
  unfold execOp
  simp only [ho, hp, hy]
  refine run_u ?_
  unfold Instr.storeAt Instr.sureAddr storeVar
  have : (Go.sizeOf t).run P w = .ok i.size w := by simp [Go.sizeOf, typeInfo, hi]
  rw [Sem.run_bind, Sem.run_pure, Result.andThen_ok, Sem.run_bind, this, Result.andThen_ok]
  simp only [hs, ne_eq, not_true_eq_false, if_false]
  exact hr
end
end Go.Mem
