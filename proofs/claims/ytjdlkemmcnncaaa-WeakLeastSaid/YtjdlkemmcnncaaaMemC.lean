/-
  The walk's laws for slices: a cut, 'append', a slice that is built, 'make'. Each law says its conditions.
-/
import Derived.Test.YtjdlkemmcnncaaaMemB
set_option linter.unusedSimpArgs false
set_option linter.unusedVariables false
namespace Go.Mem
open Go.RowKit
section
variable {P : Program} {ops : Array Oper} {Q : Exit → Act → World → Prop} {a : Act} {w : World} {rest : List Oper} {o : Oper} {α : Type} {T : Ty α} {v : Value} {L M : List α}

/-- The new slice lies where the old one lay, or in new memory. -/
def Moved (w : World) (v v' : Value) : Prop := ∀ g, blk v' = some g → blk v = some g ∨ w.heap.size ≤ g

theorem run_append (hT : T.Ok P) {t ty : TypeId} (ht : P.underlying t = some (.slice T.id)) {v2 : Value} (hv : Ow w T v L) (h2 : Sl w T v2 M) (hbytes : (L.length + M.length) * T.bytes ≤ 140737488355328) (h63 : L.length + M.length ≤ 9223372036854775807) :
    ∃ v' w', (Builtin.append_ #[t, t] ty #[v, v2]).run P w = .ok v' w' ∧ Ow w' T v' (L ++ M) ∧ Chg (fun k => blk v = some k) w w' ∧ Moved w v v' ∧ (v' = .slice none 0 0 ↔ v = .slice none 0 0 ∧ M = []) := by
  obtain ⟨i, hi, hsz, hby, hz⟩ := hT.info
  have h63' : L.length + M.length ≤ maxLen := by simpa [maxLen] using h63
  rw [← hby] at hbytes
  have hlenL := hT.flat_len L
  have hlenM := hT.flat_len M
  have hlen : (T.flat (L ++ M)).length = (L ++ M).length * T.size := hT.flat_len _
  have hzs : (T.val T.zero).cells.size = T.size := by have := hT.len T.zero; simpa [Ty.enc] using this
  -- what a grown row is
  have grown : ∀ old, old < L.length + M.length → ∃ v' w', v' = Value.slice (some ⟨w.heap.size, 0, none⟩) (L.length + M.length) (grownCap w (L.length + M.length) old T.id) ∧
      w' = w.drew.alloc (.cells ((T.flat L).toArray ++ (T.flat M).toArray ++ Builtin.zeroCells (T.val T.zero).cells (grownCap w (L.length + M.length) old T.id - (L.length + M.length))) T.id) ∧
      Ow w' T v' (L ++ M) ∧ Chg (fun k => blk v = some k) w w' ∧ Moved w v v' := by
    intro old ho
    have hge := grownCap_ge w (L.length + M.length) old T.id
    have hcm := grownCap_le_maxLen w (L.length + M.length) old T.id h63'
    refine ⟨_, _, rfl, rfl, .inr ⟨w.heap.size, _, _, by simp, heap_alloc_new w.drew _, by simpa using hge, hcm, ?_, ?_⟩, (Chg.refl _ w).drew.alloc _, ?_⟩
    · simp only [Array.size_append, List.size_toArray, size_zeroCells, hzs, hlenL, hlenM, ← Nat.add_mul]
      exact Nat.le_of_eq (by congr 1; omega)
    · simp only [Array.toList_append, List.append_assoc]
      rw [← hlen, Ty.flat_append, ← List.append_assoc]
      exact List.take_left
    · intro g hg
      simp only [blk, Value.ownBlock, Option.some.injEq] at hg
      right; omega
  rcases h2 with ⟨⟨p2, rfl⟩, rfl⟩ | ⟨g2, off2, cap2, arr2, e2, fr2, rfl, hg2, hc2, hm2, hf2, hr2⟩
  · -- nothing is appended
    refine ⟨v, w, ?_, by simpa using hv, Chg.refl _ _, fun g hg => .inl hg, by simp⟩
    rcases hv with ⟨rfl, rfl⟩ | ⟨g, cap, arr, rfl, hg, hc, hm, hf, hr⟩
    · cases p2 <;> simp [Builtin.append_, run_underlying ht, sizeOf, typeInfo, hi, Builtin.lenOf, Builtin.firstCells, loadCells, loadCellsFrom]
    · cases p2 <;> simp [Builtin.append_, run_underlying ht, sizeOf, typeInfo, hi, Builtin.lenOf, Builtin.firstCells, loadCells, loadCellsFrom, hc, storeCells]
  · have hnews : ∀ j u, (T.flat M)[j]? = some u → w.cell? ((⟨g2, off2, none⟩ : Addr).add j) = some u := by
      intro j u hj
      rw [← hr2, List.getElem?_take] at hj
      split at hj
      · rw [List.getElem?_drop] at hj
        rw [addr_add, cell_of_row w g2 _ arr2 e2 fr2 hg2, ← Array.getElem?_toList]; exact hj
      · cases hj
    have hl2 : (T.flat M).length = M.length * i.size := by rw [hlenM, hsz]
    rcases hv with ⟨rfl, rfl⟩ | ⟨g, cap, arr, rfl, hg, hc, hm, hf, hr⟩
    · by_cases hm0 : M = []
      · subst hm0
        refine ⟨.slice none 0 0, w, ?_, Ow.nil _ _, Chg.refl _ _, fun g hg => .inl hg, by simp⟩
        simp [Builtin.append_, run_underlying ht, sizeOf, typeInfo, hi, Builtin.lenOf, Builtin.firstCells, loadCells, loadCellsFrom]
      · have hpos : 0 < M.length := List.length_pos_iff.2 hm0
        have hrun := run_append_nil (P := P) w t ty T.id i _ ht hi hz ⟨g2, off2, none⟩ M.length cap2 (T.flat M) hl2 hnews hpos (by simp at h63; omega) (by simp at hbytes; omega)
        obtain ⟨v', w', rfl, rfl, q1, q2, q3⟩ := grown 0 (by simpa using hpos)
        simp only [List.length_nil, Nat.zero_add, Ty.flat, List.flatMap_nil, Array.empty_append] at hrun q1 q2 q3 ⊢
        exact ⟨_, _, hrun, q1, q2, q3, by simp [hm0]⟩
    · by_cases hroom : L.length + M.length ≤ cap
      · have hfit : L.length * i.size + (T.flat M).length ≤ arr.size := by
          rw [hlenM, hsz, ← Nat.add_mul]
          exact Nat.le_trans (Nat.mul_le_mul_right _ hroom) hf
        have hrun := run_append_room (P := P) w t ty T.id i ht hi g L.length cap arr hg ⟨g2, off2, none⟩ M.length cap2 (T.flat M) hl2 hnews (hT.flat_one1 M) hroom hfit
        refine ⟨_, _, hrun, .inr ⟨g, cap, _, by simp, setRow_heap w g arr _ T.id _ hg, by simpa using hroom, hm, ?_, ?_⟩, ?_, fun k hk => .inl hk, by simp⟩
        · simp only [List.size_toArray, List.length_append, List.length_take, List.length_drop, Array.length_toList]; omega
        · rw [hsz, hr, ← hlen, Ty.flat_append]
          exact List.take_left
        · exact ⟨rfl, rfl, rfl, by simp, fun b _ hb => setRow_other w g b _ fun e => hb (by simp [blk, Value.ownBlock, e])⟩
      · have holds : ∀ j u, (T.flat L)[j]? = some u → w.cell? ((⟨g, 0, none⟩ : Addr).add j) = some u := by
          intro j u hj
          rw [← hr, List.getElem?_take] at hj
          split at hj
          · rw [addr_add, cell_of_row w g _ arr T.id _ hg, ← Array.getElem?_toList]; simpa using hj
          · cases hj
        have hrun := run_append_grow (P := P) w t ty T.id i _ ht hi hz ⟨g, 0, none⟩ L.length cap (T.flat L) (by rw [hlenL, hsz]) holds ⟨g2, off2, none⟩ M.length cap2 (T.flat M) hl2 hnews (by omega) (by omega) (growslice_fits (by omega) hbytes)
        obtain ⟨v', w', rfl, rfl, q1, q2, q3⟩ := grown cap (by omega)
        exact ⟨_, _, hrun, q1, q2, q3, by simp⟩
/-- 'append(s, xs...)'. -/
theorem wp_append (hw : Region.wanted o (yielded ops a.tmps) = true) (s x : Operand) (t : TypeId) (ho : o.op = .call { callee := .builtin .append, args := #[s, x], argTypes := #[t, t] }) (hT : T.Ok P) (ht : P.underlying t = some (.slice T.id))
    (v2 : Value) (hs : a.eval s = v) (hx : a.eval x = v2) (hv : Ow w T v L) (h2 : Sl w T v2 M) (hbytes : (L.length + M.length) * T.bytes ≤ 140737488355328) (h63 : L.length + M.length ≤ 9223372036854775807)
    (h : ∀ v' w', Ow w' T v' (L ++ M) → Chg (fun k => blk v = some k) w w' → Moved w v v' → wpList P ops Q rest (a.put o.dst v') w') : wpList P ops Q (o :: rest) a w := by
  obtain ⟨v', w', hr, h1, h2, h3, _⟩ := run_append (ty := o.type) hT ht hv h2 hbytes h63
  refine wpList_run hw ?_ (h v' w' h1 h2 h3)
  unfold execOp
  simp only [ho, resolve, invoke, builtin, Sem.run_bind, Sem.run_pure, Result.andThen_ok, List.map_toArray, List.map_cons, List.map_nil, hs, hx, hr]

/-! ### A cut -/
/-- 'v[:n]'. -/
def pre (v : Value) (n : Nat) : Value := match v with | .slice p _ c => .slice p n c | x => x
/-- 'v[n:]'. -/
def suf (size : Nat) (v : Value) (n : Nat) : Value := match v with | .slice p l c => .slice (if c = n then p else p.map (·.add (n * size))) (l - n) (c - n) | x => x
theorem blk_pre (v : Value) (n : Nat) : blk (pre v n) = blk v := by
  cases v with
  | slice p l c => cases p <;> rfl
  | _ => rfl
theorem blk_suf (size : Nat) (v : Value) (n : Nat) : blk (suf size v n) = blk v := by
  cases v with
  | slice p l c =>
    cases p with
    | none => simp [suf, blk, Value.ownBlock]
    | some p =>
      by_cases h : c = n
      · simp [suf, h, blk, Value.ownBlock]
      · have : (p.add (n * size)).block = p.block := by unfold Addr.add; split <;> rfl
        simp [suf, h, blk, Value.ownBlock, this]
  | _ => rfl
theorem Ow.pre (hv : Ow w T v L) (hT : T.Ok P) (n : Nat) (hn : n ≤ L.length) : Ow w T (pre v n) (L.take n) := by
  rcases hv with ⟨rfl, rfl⟩ | ⟨g, cap, arr, rfl, hg, hc, hm, hf, hr⟩
  · simp at hn; subst hn; exact .inl ⟨rfl, rfl⟩
  · refine .inr ⟨g, cap, arr, by simp [Mem.pre, Nat.min_eq_left hn], hg, by simp; omega, hm, hf, ?_⟩
    rw [← hT.flat_take, ← hr, List.take_take, List.length_take, Nat.min_eq_left hn, Nat.min_eq_left (Nat.mul_le_mul_right _ hn)]
theorem Sl.pre (hv : Sl w T v L) (hT : T.Ok P) (n : Nat) (hn : n ≤ L.length) : Sl w T (pre v n) (L.take n) := by
  rcases hv with ⟨⟨p, rfl⟩, rfl⟩ | ⟨g, off, cap, arr, e, fr, rfl, hg, hc, hm, hf, hr⟩
  · simp at hn; subst hn; exact .inl ⟨⟨p, rfl⟩, rfl⟩
  · refine .inr ⟨g, off, cap, arr, e, fr, by simp [Mem.pre, Nat.min_eq_left hn], hg, by simp; omega, hm, hf, ?_⟩
    rw [← hT.flat_take, ← hr, List.take_take, List.length_take, Nat.min_eq_left hn, Nat.min_eq_left (Nat.mul_le_mul_right _ hn)]
theorem Sl.suf (hv : Sl w T v L) (hT : T.Ok P) (n : Nat) (hn : n ≤ L.length) : Sl w T (suf T.size v n) (L.drop n) := by
  rcases hv with ⟨⟨p, rfl⟩, rfl⟩ | ⟨g, off, cap, arr, e, fr, rfl, hg, hc, hm, hf, hr⟩
  · simp at hn; subst hn; exact .inl ⟨⟨_, rfl⟩, rfl⟩
  · by_cases hcn : cap = n
    · have : L.length = n := by omega
      refine .inr ⟨g, off, 0, arr, e, fr, by simp [Mem.suf, hcn, this], hg, by simp; omega, by simp, by omega, ?_⟩
      rw [List.drop_of_length_le (by omega)]
      simp [Ty.flat]
    · refine .inr ⟨g, off + n * T.size, cap - n, arr, e, fr, by simp [Mem.suf, hcn, addr_add], hg, by simp; omega, by omega, ?_, ?_⟩
      · have : (cap - n) * T.size + n * T.size = cap * T.size := by rw [← Nat.add_mul]; congr 1; omega
        omega
      · rw [← hT.flat_drop, ← hr, List.drop_take, List.drop_drop, List.length_drop, Nat.sub_mul]
theorem run_pre (hv : Sl w T v L) {t : TypeId} (ht : P.underlying t = some (.slice T.id)) (hT : T.Ok P) (q : IntKind) (n : Int) (h0 : 0 ≤ n) (hn : n ≤ L.length) :
    (Instr.sliceAt t v none (some (.int q n)) none).run P w = .ok (pre v n.toNat) w := by
  obtain ⟨p, cap, rfl⟩ := hv.form
  have hc : (n : Int) ≤ (cap : Int) := by
    rcases hv with ⟨⟨_, h⟩, rfl⟩ | ⟨g, off, cap', arr, e, fr, h, hg, hc, _⟩
    · simp at h hn; omega
    · simp at h; obtain ⟨_, rfl⟩ := h; omega
  have hz : ∀ p : Option Addr, (p.map fun x => x.add 0) = p := fun p => by cases p <;> simp [Addr.add]
  simp [Instr.sliceAt, Instr.slice, run_underlying ht, Instr.sliceBounds, Instr.sliceBound, asIntOf, h0, hc, hT.run_sizeOf, pre, hz]
theorem wp_pre (hw : Region.wanted o (yielded ops a.tmps) = true) (x i : Operand) (t : TypeId) (ho : o.op = .slice t x none (some i) none) (hT : T.Ok P) (ht : P.underlying t = some (.slice T.id)) (q : IntKind) (n : Int)
    (hx : a.eval x = v) (hi : a.eval i = .int q n) (hv : Sl w T v L) (h0 : 0 ≤ n) (hn : n ≤ L.length) (h : wpList P ops Q rest (a.put o.dst (pre v n.toNat)) w) : wpList P ops Q (o :: rest) a w := by
  refine wpList_run hw ?_ h
  unfold execOp
  simp only [ho, hx, Option.map_none, Option.map_some, hi]
  exact run_v (run_pre hv ht hT q n h0 hn)
theorem run_suf (hv : Sl w T v L) {t : TypeId} (ht : P.underlying t = some (.slice T.id)) (hT : T.Ok P) (q : IntKind) (n : Int) (h0 : 0 ≤ n) (hn : n ≤ L.length) :
    (Instr.sliceAt t v (some (.int q n)) none none).run P w = .ok (suf T.size v n.toNat) w := by
  obtain ⟨p, cap, rfl⟩ := hv.form
  simp [Instr.sliceAt, Instr.slice, run_underlying ht, Instr.sliceBounds, Instr.sliceBound, asIntOf, h0, hn, hT.run_sizeOf, suf]
theorem wp_suf (hw : Region.wanted o (yielded ops a.tmps) = true) (x i : Operand) (t : TypeId) (ho : o.op = .slice t x (some i) none none) (hT : T.Ok P) (ht : P.underlying t = some (.slice T.id)) (q : IntKind) (n : Int)
    (hx : a.eval x = v) (hi : a.eval i = .int q n) (hv : Sl w T v L) (h0 : 0 ≤ n) (hn : n ≤ L.length) (h : wpList P ops Q rest (a.put o.dst (suf T.size v n.toNat)) w) : wpList P ops Q (o :: rest) a w := by
  refine wpList_run hw ?_ h
  unfold execOp
  simp only [ho, hx, Option.map_none, Option.map_some, hi]
  exact run_v (run_suf hv ht hT q n h0 hn)

/-! ### A slice that is built, and 'make' -/
/-- A new block of cells, as a slice. -/
theorem Ow.built (w : World) (hT : T.Ok P) (L : List α) (hl : L.length ≤ 9223372036854775807) : Ow (w.alloc (.cells (T.flat L).toArray T.id)) T (.slice (some ⟨w.heap.size, 0, none⟩) L.length L.length) L := by
  refine .inr ⟨w.heap.size, L.length, _, rfl, heap_alloc_new w _, Nat.le_refl _, by simpa [maxLen] using hl, ?_, ?_⟩
  · simp [hT.flat_len]
  · rw [List.toList_toArray, ← hT.flat_len, List.take_length]
/-- The same, the block's number spelt as the walk spells it. -/
theorem Ow.lit {w' : World} (hT : T.Ok P) (L : List α) (g n : Nat) (arr : Array Value) (hg : w'.heap[g]? = some (.cells arr T.id (0, 0))) (he : arr.toList = T.flat L) (hn : n = L.length) (hl : L.length ≤ 9223372036854775807) : Ow w' T (.slice (some ⟨g, 0, none⟩) n n) L := by
  subst hn
  have h1 := hT.flat_len L
  refine .inr ⟨g, L.length, arr, rfl, hg, Nat.le_refl _, by simpa [maxLen] using hl, ?_, ?_⟩
  · rw [← h1, ← he]; simp
  · rw [he, ← h1, List.take_length]
theorem heap_new (w : World) (ob : Obj) (g : Nat) (h : g = w.heap.size) : (w.alloc ob).heap[g]? = some ob := by subst h; exact heap_alloc_new w ob
theorem heap_old {w : World} {g : Nat} {x : Obj} (h : w.heap[g]? = some x) (ob : Obj) : (w.alloc ob).heap[g]? = some x := (Below.heap_alloc w ob g (Array.getElem?_eq_some_iff.1 h).1).trans h
theorem heap_lt {w : World} {g : Nat} {x : Obj} (h : w.heap[g]? = some x) : g < w.heap.size := (Array.getElem?_eq_some_iff.1 h).1
theorem cell_row {w : World} {g : Nat} {cs : Array Value} {t : TypeId} {fr : Nat × Nat} (h : w.heap[g]? = some (.cells cs t fr)) {j : Nat} {u : Value} (hj : cs[j]? = some u) : w.cell? ⟨g, j, none⟩ = some u := (cell_of_row w g j cs t fr h).trans hj
theorem heap_set {w : World} {g : Nat} {cs : Array Value} {t : TypeId} (h : w.heap[g]? = some (.cells cs t (0, 0))) (j : Nat) (u : Value) : (w.setCell ⟨g, j, none⟩ u).heap[g]? = some (.cells (cs.setIfInBounds j u) t (0, 0)) := heap_setCell_same w g j cs t u h
theorem heap_set_ne {w : World} {g : Nat} {x : Obj} (h : w.heap[g]? = some x) {p : Addr} (hp : g ≠ p.block) (u : Value) : (w.setCell p u).heap[g]? = some x := (Below.heap_setCell w p u g hp).trans h
theorem madeCells_flat (hT : T.Ok P) (n : Nat) : (madeCells (T.val T.zero).cells (n * T.size)).toList = T.flat (List.replicate n T.zero) := by
  have hz : (T.val T.zero).cells.size = T.size := by have := hT.len T.zero; simpa [Ty.enc] using this
  apply List.ext_getElem?
  intro i
  have hlen := hT.flat_len (List.replicate n T.zero)
  rw [List.length_replicate] at hlen
  by_cases hi : i < n * T.size
  · have hpos := hT.pos
    have hdm : i = (i / T.size) * T.size + i % T.size := by rw [Nat.mul_comm]; exact (Nat.div_add_mod i T.size).symm
    have hq : i / T.size < n := by rw [Nat.div_lt_iff_lt_mul hpos]; exact hi
    have hr : i % T.size < T.size := Nat.mod_lt _ hpos
    have h1 := hT.flat_get (L := List.replicate n T.zero) (k := i / T.size) (x := T.zero) (by simp [hq]) hr
    rw [← hdm] at h1
    rw [h1]
    simp [madeCells, hi, hz, Ty.enc, hr]
  · rw [List.getElem?_eq_none (by simp [size_madeCells]; omega), List.getElem?_eq_none (by omega)]
theorem wp_make (hw : Region.wanted o (yielded ops a.tmps) = true) (t : TypeId) (x y : Operand) (ho : o.op = .makeSlice t x y) (hT : T.Ok P) (ht : P.underlying t = some (.slice T.id)) (q q' : IntKind) (n : Int) (hx : a.eval x = .int q n) (hy : a.eval y = .int q' n) (h0 : 0 ≤ n) (hb : T.bytes * n.toNat ≤ 281474976710656) (h63 : n ≤ 9223372036854775807)
    (h : ∀ v' w', Ow w' T v' (List.replicate n.toNat T.zero) → Chg (fun _ => False) w w' → blk v' = some w.heap.size → wpList P ops Q rest (a.put o.dst v') w') : wpList P ops Q (o :: rest) a w := by
  obtain ⟨i, hi, hsz, hby, hz⟩ := hT.info
  have e : n = (n.toNat : Int) := by omega
  have hb2 : ((T.bytes * n.toNat : Nat) : Int) ≤ 281474976710656 := by omega
  rw [Int.natCast_mul, ← hby] at hb2
  have hr := run_make (P := P) w t T.id i _ ht hi hz q q' n.toNat n.toNat (by omega) (Int.le_refl _) hb2 (by omega)
  rw [hsz] at hr
  simp only [Int.toNat_natCast] at hr
  refine wpList_run hw (v := .slice (some ⟨w.heap.size, 0, none⟩) n.toNat n.toNat) (w' := w.alloc (.cells (madeCells (T.val T.zero).cells (n.toNat * T.size)) T.id)) ?_ (h _ _ ?_ ((Chg.refl _ w).alloc _) rfl)
  · unfold execOp
    simp only [ho, hx, hy]
    rw [e]
    exact run_v hr
  · refine .inr ⟨w.heap.size, n.toNat, _, by simp, heap_alloc_new w _, by simp, by unfold maxLen; omega, ?_, ?_⟩
    · simp [size_madeCells]
    · rw [madeCells_flat hT, List.length_replicate]
      have := hT.flat_len (List.replicate n.toNat T.zero)
      rw [List.length_replicate] at this
      rw [← this, List.take_length]
end
end Go.Mem
