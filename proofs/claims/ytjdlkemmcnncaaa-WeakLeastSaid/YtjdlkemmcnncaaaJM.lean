/-
  The logic of walks: the rules for memory, slices, maps and calls. Each rule says its conditions.
-/
import Derived.Test.YtjdlkemmcnncaaaJB
set_option linter.unusedSimpArgs false
set_option linter.unusedVariables false
set_option linter.unusedSectionVars false
namespace Go.J
open Go.Hp
open Go.Mem (Ty KTy blk elemAt addr_add addr_add_add pre suf aget aset adel apos Stamps aggDesc spliceAt)

section
variable {P : Program} {w0 : World} {ops : Array Oper} {Q : Exit → Act → World → Prop} {n : Nat} {E : Env} {H : Heap} {o : Oper} {rest : List Oper}

theorem at_push {w : World} (ha : At w0 H w) (ob : Obj) : At w0 (H.push ob) (w.alloc ob) := ⟨by show w.heap.push ob = _; rw [ha.heap], ha.os, ha.tape, ha.output⟩
/-- A new block. -/
structure New (H H' : Heap) (g : Nat) (ob : Obj) : Prop where
  at_ : g = H.size
  is : H'[g]? = some ob
  chg : ∀ S, Chg S H H'
  size : H'.size = H.size + 1
theorem new_push (H : Heap) (ob : Obj) : New H (H.push ob) H.size ob := ⟨rfl, get_push H ob, fun S => Chg.push H ob S, by simp⟩
theorem l_new {v : Nat → Value} {ob : Obj} (hk : okOp ops n E o = true) (hr : ∀ w : World, w.heap = H → (execOp (ev E) o).run P w = .ok (.value (v w.heap.size)) (w.alloc ob))
    (h : ∀ g H', New H H' g ob → JL P w0 ops Q n rest (put E o.dst (v g)) H') : JL P w0 ops Q n (o :: rest) E H := by
  refine l_run (R := fun v' H' => v' = v H.size ∧ New H H' H.size ob) hk (fun w ha => ⟨_, _, hr w ha.heap, ?_, ?_, ?_⟩) ?_
  · exact ⟨rfl, ha.os, ha.tape, ha.output⟩
  · rw [ha.heap]
  · have := at_push ha ob
    rw [this.heap]; exact new_push H ob
  · rintro _ H' ⟨rfl, hn⟩; exact h _ _ hn
theorem l_box {t : TypeId} {x : Operand} (ho : o.op = .box t x) (u : Value) (cs : Array Value) (hk : okOp ops n E o = true) (hx : ev E x = u) (hc : u.cells = cs)
    (h : ∀ g H', New H H' g (.cells cs t (0, 0)) → JL P w0 ops Q n rest (put E o.dst (.pointer (some ⟨g, 0, none⟩))) H') : JL P w0 ops Q n (o :: rest) E H := by
  refine l_new (v := fun g => .pointer (some ⟨g, 0, none⟩)) hk (fun w _ => ?_) h
  unfold execOp
  simp only [ho, hx]
  exact Mem.run_v (by simp [Instr.box, newVar, newRow, hc])
theorem l_alloc {t : TypeId} (ho : o.op = .alloc t) (z : Value) (cs : Array Value) (hk : okOp ops n E o = true) (hz : ∀ w, (zeroValue t).run P w = .ok z w) (hc : z.cells = cs)
    (h : ∀ g H', New H H' g (.cells cs t (0, 0)) → JL P w0 ops Q n rest (put E o.dst (.pointer (some ⟨g, 0, none⟩))) H') : JL P w0 ops Q n (o :: rest) E H := by
  refine l_new (v := fun g => .pointer (some ⟨g, 0, none⟩)) hk (fun w _ => ?_) h
  unfold execOp
  simp only [ho]
  exact Mem.run_v (by simp [Instr.alloc, newVar, newRow, hz, hc])
theorem l_makeMap {t : TypeId} (ho : o.op = .makeMap t none) (hk : okOp ops n E o = true)
    (h : ∀ g H', New H H' g (.map #[] 0) → JL P w0 ops Q n rest (put E o.dst (.map (some g))) H') : JL P w0 ops Q n (o :: rest) E H := by
  refine l_new (v := fun g => .map (some g)) hk (fun w _ => ?_) h
  unfold execOp
  simp only [ho]
  exact Mem.run_v (by simp [Instr.makeMap])
/-- The cells of a slice that is written out. -/
def builtCells (P : Program) (t : TypeId) (len : Nat) (parts : List (Nat × Value)) : Option (TypeId × Array Value) :=
  match P.underlying t with
  | some (.slice e) => match P.info? e with
    | some i => match i.zero with
      | some z => if len * i.size > 2 ^ 24 then none else
        (Instr.fill (fun j => some (j * i.size, i.size)) ((Array.range (len * i.size)).map ((if len * i.size = 0 then #[] else z.cells)[· % (if len * i.size = 0 then #[] else z.cells).size]!)) parts).map fun c => (e, c)
      | none => none
    | none => none
  | _ => none
theorem l_buildSlice {t : TypeId} {len : Nat} {ps : Array (Nat × Operand)} (ho : o.op = .buildSlice t len ps) (pl : List (Nat × Value)) (e : TypeId) (cs : Array Value) (hk : okOp ops n E o = true) (hpl : (ps.toList.map fun p => (p.1, ev E p.2)) = pl) (hb : builtCells P t len pl = some (e, cs))
    (h : ∀ g H', New H H' g (.cells cs e (0, 0)) → JL P w0 ops Q n rest (put E o.dst (.slice (some ⟨g, 0, none⟩) len len)) H') : JL P w0 ops Q n (o :: rest) E H := by
  refine l_new (v := fun g => .slice (some ⟨g, 0, none⟩) len len) hk (fun w _ => ?_) h
  have hp : (ps.map fun (i, x) => (i, ev E x)) = pl.toArray := by rw [← hpl]; apply Array.ext'; simp
  unfold execOp
  simp only [ho, hp]
  refine Mem.run_v ?_
  unfold builtCells at hb
  cases hu : P.underlying t with
  | none => rw [hu] at hb; simp at hb
  | some d =>
    rw [hu] at hb
    cases d <;> simp only at hb <;> first | (simp at hb; done) | skip
    rename_i e'
    cases hi : P.info? e' with
    | none => rw [hi] at hb; simp at hb
    | some i =>
      rw [hi] at hb
      simp only at hb
      cases hz : i.zero with
      | none => rw [hz] at hb; simp at hb
      | some z =>
        rw [hz] at hb
        simp only at hb
        by_cases h24 : len * i.size > 2 ^ 24
        · rw [if_pos h24] at hb; simp at hb
        · rw [if_neg h24] at hb
          simp only [Option.map_eq_some_iff, Prod.mk.injEq] at hb
          obtain ⟨c, hf, rfl, rfl⟩ := hb
          by_cases h0 : len * i.size = 0
          · have hf' : Instr.fill (fun j => some (j * i.size, i.size)) #[] pl = some c := by
              simp only [h0, if_true, Array.range_zero', List.map_toArray, List.map_nil] at hf; exact hf
            simp only [Instr.buildSlice, Sem.run_bind, run_underlying hu, Result.andThen_ok, sizeOf, typeInfo, program, Sem.run, hi, Sem.run_pure, h24, if_false, h0, if_true, Array.range_zero', List.map_toArray, List.map_nil, hf']
            simp [newRow]
          · simp only [h0, if_false] at hf
            simp only [Instr.buildSlice, Sem.run_bind, run_underlying hu, Result.andThen_ok, sizeOf, typeInfo, program, Sem.run, hi, Sem.run_pure, h24, if_false, h0, hf, zeroValue, hz]
            simp [newRow]

/-! ### Loads -/
def scalarT (P : Program) (t : TypeId) : Bool := match P.underlying t with | some d => !aggDesc d | none => false
def aggT (P : Program) (t : TypeId) (m : Nat) : Bool := (match P.underlying t with | some d => aggDesc d | none => false) && (match P.info? t with | some i => Nat.beq i.size m | none => false)
theorem run_isAgg {t : TypeId} {d : TypeDesc} (h : P.underlying t = some d) (w : World) : (isAgg t).run P w = .ok (aggDesc d) w := by
  unfold isAgg
  rw [Sem.run_bind, run_underlying h, Result.andThen_ok]
  cases d <;> rfl
theorem run_loadC {t : TypeId} (ht : scalarT P t = true) {w : World} {p : Addr} {u : Value} (hc : w.cell? p = some u) : (loadVar t p).run P w = .ok u w := by
  unfold scalarT at ht
  cases hu : P.underlying t with
  | none => rw [hu] at ht; simp at ht
  | some d =>
    rw [hu] at ht
    unfold loadVar
    rw [Sem.run_bind, run_isAgg hu, Result.andThen_ok]
    have : aggDesc d = false := by simpa using ht
    rw [this]
    simp [load, Sem.run, hc]
theorem run_loadA {t : TypeId} {m : Nat} (ht : aggT P t m = true) {w : World} {g k : Nat} {arr : Array Value} {e : TypeId} {fr : Nat × Nat} (hB : w.heap[g]? = some (.cells arr e fr)) (cs : Array Value) (hl : cs.size = m) (hc : ∀ j u, cs[j]? = some u → arr[k + j]? = some u) :
    (loadVar t ⟨g, k, none⟩).run P w = .ok (.agg cs) w := by
  unfold aggT at ht
  rw [Bool.and_eq_true] at ht
  cases hu : P.underlying t with
  | none => rw [hu] at ht; simp at ht
  | some d =>
    rw [hu] at ht
    cases hi : P.info? t with
    | none => rw [hi] at ht; simp at ht
    | some i =>
      rw [hi] at ht
      have hs : i.size = m := Nat.eq_of_beq_eq_true ht.2
      have hd : aggDesc d = true := ht.1
      have hs' : (sizeOf t).run P w = .ok m w := by simp [sizeOf, typeInfo, hi, hs]
      have hload := run_loadCells_list (P := P) w ⟨g, k, none⟩ cs.toList (fun j u hj => by rw [addr_add, cell_of_row w g (k + j) arr e fr hB]; exact hc j u (by simpa using hj))
      unfold loadVar
      rw [Sem.run_bind, run_isAgg hu, Result.andThen_ok, hd]
      simp only [if_true, Sem.run_bind, hs', Result.andThen_ok]
      have hl' : cs.toList.length = m := by simpa using hl
      rw [hl'] at hload
      rw [hload]
      simp
theorem run_loadX {t : TypeId} {m : Nat} (ht : aggT P t m = true) {H : Heap} {w : World} (hw : w.heap = H) {g k : Nat} {arr : Array Value} {e : TypeId} {fr : Nat × Nat} (hB : H[g]? = some (.cells arr e fr)) (cs : Array Value) (hl : cs.size = m) (hc : arr.toList.extract k (k + m) = cs.toList) :
    (loadVar t ⟨g, k, none⟩).run P w = .ok (.agg cs) w := by
  refine run_loadA ht (by rw [hw]; exact hB) cs hl (fun j u hj => ?_)
  have h1 : cs.toList[j]? = some u := by simpa using hj
  rw [← hc, List.extract_eq_take_drop, List.getElem?_take] at h1
  split at h1
  · rw [List.getElem?_drop] at h1
    simpa using h1
  · cases h1
theorem l_loadC {t : TypeId} {x : Operand} (ho : o.op = .load t x) (g k : Nat) (arr : Array Value) (e : TypeId) (fr : Nat × Nat) (u : Value) (hk : okOp ops n E o = true) (hx : ev E x = .pointer (some ⟨g, k, none⟩)) (ht : scalarT P t = true) (hB : H[g]? = some (.cells arr e fr)) (hu : arr[k]? = some u)
    (h : JL P w0 ops Q n rest (put E o.dst u) H) : JL P w0 ops Q n (o :: rest) E H := by
  refine l_read u hk (fun w hw => ?_) h
  unfold execOp
  simp only [ho, hx]
  refine Mem.run_v ?_
  unfold Instr.loadAt Instr.sureAddr
  rw [Sem.run_bind, Sem.run_pure, Result.andThen_ok]
  exact run_loadC ht (by rw [cell_of_row w g k arr e fr (by rw [hw]; exact hB)]; exact hu)
def cellsAt (arr : Array Value) (k : Nat) (cs : List Value) : Bool := match cs with | [] => true | _ :: r => Nat.blt k arr.size && cellsAt arr (k + 1) r
theorem l_loadA {t : TypeId} {x : Operand} (ho : o.op = .load t x) (g k m : Nat) (arr : Array Value) (e : TypeId) (fr : Nat × Nat) (cs : Array Value) (hk : okOp ops n E o = true) (hx : ev E x = .pointer (some ⟨g, k, none⟩)) (ht : aggT P t m = true) (hB : H[g]? = some (.cells arr e fr)) (hl : cs.size = m) (hc : arr.toList.extract k (k + m) = cs.toList)
    (h : JL P w0 ops Q n rest (put E o.dst (.agg cs)) H) : JL P w0 ops Q n (o :: rest) E H := by
  refine l_read _ hk (fun w hw => ?_) h
  unfold execOp
  simp only [ho, hx]
  refine Mem.run_v ?_
  unfold Instr.loadAt Instr.sureAddr
  rw [Sem.run_bind, Sem.run_pure, Result.andThen_ok]
  refine run_loadA ht (by rw [hw]; exact hB) cs hl (fun j u hj => ?_)
  have h1 : cs.toList[j]? = some u := by simpa using hj
  rw [← hc, List.extract_eq_take_drop, List.getElem?_take] at h1
  split at h1
  · rw [List.getElem?_drop] at h1
    simpa using h1
  · cases h1
theorem l_loadE {α : Type} {T : Ty α} {t : TypeId} {x : Operand} (ho : o.op = .load t x) (hT : T.Ok P) (hid : T.id = t) (v : Value) (k : Nat) (y : α) (u : Value) (L : List α) (hk : okOp ops n E o = true) (hx : ev E x = .pointer (some (elemAt T.size v k))) (hv : Sl H T v L) (hy : L[k]? = some y) (hu : T.val y = u)
    (h : JL P w0 ops Q n rest (put E o.dst u) H) : JL P w0 ops Q n (o :: rest) E H := by
  subst hid hu
  refine l_read _ hk (fun w hw => ?_) h
  subst hw
  unfold execOp
  simp only [ho, hx]
  exact Mem.run_v (Mem.run_loadElem hv.mem hT hy)
theorem l_loadF {α : Type} {T : Ty α} {t : TypeId} {x : Operand} (ho : o.op = .load t x) (hT : T.Ok P) (v : Value) (k j : Nat) (y : α) (u : Value) (L : List α) (hk : okOp ops n E o = true) (hx : ev E x = .pointer (some ((elemAt T.size v k).add j))) (ht : scalarT P t = true) (hv : Sl H T v L) (hy : L[k]? = some y) (hu : (T.enc y)[j]? = some u)
    (h : JL P w0 ops Q n rest (put E o.dst u) H) : JL P w0 ops Q n (o :: rest) E H := by
  refine l_read u hk (fun w hw => ?_) h
  subst hw
  unfold execOp
  simp only [ho, hx]
  refine Mem.run_v ?_
  unfold Instr.loadAt Instr.sureAddr
  rw [Sem.run_bind, Sem.run_pure, Result.andThen_ok]
  exact run_loadC ht (hv.cell hT hy hu)

/-! ### Stores -/
theorem setRow_heap' (w : World) (g : Nat) (cs cur : Array Value) (t : TypeId) (fr : Nat × Nat) (h : w.heap[g]? = some (.cells cur t fr)) : (w.setRow g cs).heap[g]? = some (.cells cs t fr) := setRow_heap w g cur cs t fr h
theorem run_storeR {t : TypeId} {i : TypeInfo} (hi : P.info? t = some i) {w : World} {g k : Nat} {arr : Array Value} {e : TypeId} (hB : w.heap[g]? = some (.cells arr e (0, 0))) (u : Value) (hs : u.cells.size = i.size) (hfit : k + u.cells.size ≤ arr.size) (h1 : ∀ c ∈ u.cells.toList, c.oneCell' = true) :
    (storeVar t ⟨g, k, none⟩ u).run P w = .ok () (w.setRow g (spliceAt arr.toList k u.cells.toList).toArray) := by
  have hst := run_storeCells_at P g k e u.cells.toList 0 arr w hB (by simpa using hfit) h1
  unfold storeVar
  have : (sizeOf t).run P w = .ok i.size w := by simp [sizeOf, typeInfo, hi]
  rw [Sem.run_bind, this, Result.andThen_ok]
  simp only [hs, ne_eq, not_true_eq_false, if_false]
  simpa [spliceAt] using hst
def sizeT (P : Program) (t : TypeId) (m : Nat) : Bool := match P.info? t with | some i => Nat.beq i.size m | none => false
/-- One block has turned. -/
structure Put (H H' : Heap) (g : Nat) (ob : Obj) : Prop where
  is : H'[g]? = some ob
  chg : Chg (fun k => k = g) H H'
  size : H'.size = H.size
theorem l_store {t : TypeId} {x y : Operand} (ho : o.op = .store t x y) (g k m : Nat) (arr arr' : Array Value) (e : TypeId) (u : Value) (hk : okOp ops n E o = true) (hx : ev E x = .pointer (some ⟨g, k, none⟩)) (hy : ev E y = u) (hs : sizeT P t m = true) (hB : H[g]? = some (.cells arr e (0, 0))) (hm : u.cells.size = m) (hfit : Nat.ble (k + m) arr.size = true) (h1 : (u.cells.toList.all fun c => c.oneCell') = true) (ha' : (spliceAt arr.toList k u.cells.toList) = arr'.toList)
    (h : ∀ H', Put H H' g (.cells arr' e (0, 0)) → JL P w0 ops Q n rest (put E o.dst undef) H') : JL P w0 ops Q n (o :: rest) E H := by
  refine l_runs (R := fun H' => Put H H' g (.cells arr' e (0, 0))) hk (fun w ha => ?_) h
  unfold sizeT at hs
  cases hi : P.info? t with
  | none => rw [hi] at hs; simp at hs
  | some i =>
    rw [hi] at hs
    have hsz : i.size = m := Nat.eq_of_beq_eq_true hs
    have hB' : w.heap[g]? = some (.cells arr e (0, 0)) := by rw [ha.heap]; exact hB
    have hrun := run_storeR (P := P) hi hB' u (by omega) (k := k) (by rw [hm]; exact Nat.le_of_ble_eq_true hfit) (fun c hc => List.all_eq_true.1 h1 c hc)
    refine ⟨w.setRow g (spliceAt arr.toList k u.cells.toList).toArray, ?_, ⟨rfl, ha.os, ha.tape, ha.output⟩, ?_, ?_, ?_⟩
    · unfold execOp
      simp only [ho, hx, hy]
      exact Mem.run_u (by unfold Instr.storeAt Instr.sureAddr; rw [Sem.run_bind, Sem.run_pure, Result.andThen_ok]; exact hrun)
    · rw [setRow_heap' w g _ arr e (0, 0) hB', ha']
    · refine ⟨by rw [← ha.heap]; simp, fun j hj hne => ?_⟩
      rw [← ha.heap]; exact setRow_other w g j _ hne
    · rw [← ha.heap]; simp
theorem l_storeE {α : Type} {T : Ty α} {t : TypeId} {x y : Operand} (ho : o.op = .store t x y) (hT : T.Ok P) (v : Value) (k j m : Nat) (z z' : α) (u : Value) (L : List α) (hk : okOp ops n E o = true) (hx : ev E x = .pointer (some ((elemAt T.size v k).add j))) (hy : ev E y = u) (hs : sizeT P t m = true) (hv : Ow H T v L) (hz : L[k]? = some z) (hm : u.cells.size = m) (hfit : Nat.ble (j + m) T.size = true) (h1 : (u.cells.toList.all fun c => c.oneCell') = true) (he : T.enc z' = spliceAt (T.enc z) j u.cells.toList)
    (h : ∀ H', Ow H' T v (L.set k z') → Chg (fun b => blk v = some b) H H' → JL P w0 ops Q n rest (put E o.dst undef) H') : JL P w0 ops Q n (o :: rest) E H := by
  refine l_runs (R := fun H' => Ow H' T v (L.set k z') ∧ Chg (fun b => blk v = some b) H H') hk (fun w ha => ?_) (fun H' ⟨a1, a2⟩ => h H' a1 a2)
  unfold sizeT at hs
  cases hi : P.info? t with
  | none => rw [hi] at hs; simp at hs
  | some i =>
    rw [hi] at hs
    have hsz : i.size = m := Nat.eq_of_beq_eq_true hs
    have hv' : Mem.Ow w T v L := by have := hv; rw [← ha.heap] at this; exact this
    obtain ⟨w', hr, h2, h3⟩ := Mem.run_storePart (P := P) hv' hT hz (j := j) (by have := Nat.le_of_ble_eq_true hfit; simp; omega) (fun c hc => List.all_eq_true.1 h1 c hc) he
    refine ⟨w', ?_, ⟨rfl, h3.os.trans ha.os, h3.tape.trans ha.tape, h3.output.trans ha.output⟩, h2, ?_⟩
    · unfold execOp
      simp only [ho, hx, hy]
      refine Mem.run_u ?_
      unfold Instr.storeAt Instr.sureAddr storeVar
      have : (sizeOf t).run P w = .ok i.size w := by simp [sizeOf, typeInfo, hi]
      rw [Sem.run_bind, Sem.run_pure, Result.andThen_ok, Sem.run_bind, this, Result.andThen_ok]
      simp only [show u.cells.size = i.size by omega, ne_eq, not_true_eq_false, if_false]
      exact hr
    · rw [← ha.heap]; exact Chg.of_mem h3

/-! ### Slices -/
section
variable {α : Type} {T : Ty α} {v : Value} {L M : List α}
theorem l_len {x : Operand} {t : TypeId} (ho : o.op = .call { callee := .builtin .len, args := #[x], argTypes := #[t] }) (hT : T.Ok P) (ht : P.underlying t = some (.slice T.id)) (hk : okOp ops n E o = true) (hx : ev E x = v) (hv : Sl H T v L)
    (h : JL P w0 ops Q n rest (put E o.dst (.int .i64 L.length)) H) : JL P w0 ops Q n (o :: rest) E H := by
  refine l_read _ hk (fun w hw => ?_) h
  subst hw
  unfold execOp
  simp only [ho, resolve, invoke, builtin, Sem.run_bind, Sem.run_pure, Result.andThen_ok, List.map_toArray, List.map_cons, List.map_nil, hx, Mem.run_len hv.mem ht]
theorem l_index {x i : Operand} {t : TypeId} (ho : o.op = .indexAddr t x i) (hT : T.Ok P) (ht : P.underlying t = some (.slice T.id)) (q : IntKind) (k : Int) (hk : okOp ops n E o = true) (hx : ev E x = v) (hi : ev E i = .int q k) (hv : Sl H T v L) (h0 : 0 ≤ k) (hl : k < L.length) (m : Nat) (hm : m = k.toNat)
    (h : JL P w0 ops Q n rest (put E o.dst (.pointer (some (elemAt T.size v m)))) H) : JL P w0 ops Q n (o :: rest) E H := by
  subst hm
  refine l_read _ hk (fun w hw => ?_) h
  subst hw
  have e : k = (k.toNat : Int) := by omega
  unfold execOp
  simp only [ho, hx, hi]
  rw [e]
  exact Mem.run_v (Mem.run_index hv.mem hT ht (by omega) q)
theorem l_pre {x i : Operand} {t : TypeId} (ho : o.op = .slice t x none (some i) none) (hT : T.Ok P) (ht : P.underlying t = some (.slice T.id)) (q : IntKind) (k : Int) (hk : okOp ops n E o = true) (hx : ev E x = v) (hi : ev E i = .int q k) (hv : Sl H T v L) (h0 : 0 ≤ k) (hl : k ≤ L.length) (m : Nat) (hm : m = k.toNat)
    (h : JL P w0 ops Q n rest (put E o.dst (pre v m)) H) : JL P w0 ops Q n (o :: rest) E H := by
  subst hm
  refine l_read _ hk (fun w hw => ?_) h
  subst hw
  unfold execOp
  simp only [ho, hx, hi, Option.map_none, Option.map_some]
  exact Mem.run_v (Mem.run_pre hv.mem ht hT q k h0 hl)
theorem l_suf {x i : Operand} {t : TypeId} (ho : o.op = .slice t x (some i) none none) (hT : T.Ok P) (ht : P.underlying t = some (.slice T.id)) (q : IntKind) (k : Int) (hk : okOp ops n E o = true) (hx : ev E x = v) (hi : ev E i = .int q k) (hv : Sl H T v L) (h0 : 0 ≤ k) (hl : k ≤ L.length) (m : Nat) (hm : m = k.toNat)
    (h : JL P w0 ops Q n rest (put E o.dst (suf T.size v m)) H) : JL P w0 ops Q n (o :: rest) E H := by
  subst hm
  refine l_read _ hk (fun w hw => ?_) h
  subst hw
  unfold execOp
  simp only [ho, hx, hi, Option.map_none, Option.map_some]
  exact Mem.run_v (Mem.run_suf hv.mem ht hT q k h0 hl)
/-- Behind an append. -/
structure Apd (H H' : Heap) (T : Ty α) (v v' : Value) (L : List α) : Prop where
  ow : Ow H' T v' L
  chg : Chg (fun k => blk v = some k) H H'
  moved : Moved H v v'
theorem l_append {s x : Operand} {t : TypeId} (ho : o.op = .call { callee := .builtin .append, args := #[s, x], argTypes := #[t, t] }) (hT : T.Ok P) (ht : P.underlying t = some (.slice T.id)) (v2 : Value) (hk : okOp ops n E o = true) (hs : ev E s = v) (hx : ev E x = v2) (hv : Ow H T v L) (h2 : Sl H T v2 M) (hb : (L.length + M.length) * T.bytes ≤ 140737488355328) (h63 : L.length + M.length ≤ 9223372036854775807)
    (h : ∀ v' H', Apd H H' T v v' (L ++ M) → JL P w0 ops Q n rest (put E o.dst v') H') : JL P w0 ops Q n (o :: rest) E H := by
  refine l_run (R := fun v' H' => Apd H H' T v v' (L ++ M)) hk (fun w ha => ?_) h
  have hv' : Mem.Ow w T v L := by have := hv; rw [← ha.heap] at this; exact this
  have h2' : Mem.Sl w T v2 M := by have := h2; rw [← ha.heap] at this; exact this
  obtain ⟨v', w', hr, q1, q2, q3, _⟩ := Mem.run_append (ty := o.type) hT ht hv' h2' hb h63
  refine ⟨v', w', ?_, ⟨rfl, q2.os.trans ha.os, q2.tape.trans ha.tape, q2.output.trans ha.output⟩, q1, ?_, ?_⟩
  · unfold execOp
    simp only [ho, resolve, invoke, builtin, Sem.run_bind, Sem.run_pure, Result.andThen_ok, List.map_toArray, List.map_cons, List.map_nil, hs, hx, hr]
  · rw [← ha.heap]; exact Chg.of_mem q2
  · intro g hg; rw [← ha.heap]; exact q3 g hg
theorem l_make {t : TypeId} {x y : Operand} (ho : o.op = .makeSlice t x y) (hT : T.Ok P) (ht : P.underlying t = some (.slice T.id)) (q q' : IntKind) (k : Int) (hk : okOp ops n E o = true) (hx : ev E x = .int q k) (hy : ev E y = .int q' k) (h0 : 0 ≤ k) (hb : T.bytes * k.toNat ≤ 281474976710656) (h63 : k ≤ 9223372036854775807)
    (h : ∀ g H' v', g = H.size → Ow H' T v' (List.replicate k.toNat T.zero) → (∀ S, Chg S H H') → blk v' = some g → H'.size = H.size + 1 → JL P w0 ops Q n rest (put E o.dst v') H') : JL P w0 ops Q n (o :: rest) E H := by
  refine l_run (R := fun v' H' => Ow H' T v' (List.replicate k.toNat T.zero) ∧ (∀ S, Chg S H H') ∧ blk v' = some H.size ∧ H'.size = H.size + 1) hk (fun w ha => ?_) (fun v' H' ⟨a1, a2, a3, a4⟩ => h _ H' v' rfl a1 a2 a3 a4)
  obtain ⟨i, hi, hsz, hby, hz⟩ := hT.info
  have e : k = (k.toNat : Int) := by omega
  have hb2 : ((T.bytes * k.toNat : Nat) : Int) ≤ 281474976710656 := by omega
  rw [Int.natCast_mul, ← hby] at hb2
  have hr := run_make (P := P) w t T.id i _ ht hi hz q q' k.toNat k.toNat (by omega) (Int.le_refl _) hb2 (by omega)
  rw [hsz] at hr
  simp only [Int.toNat_natCast] at hr
  refine ⟨.slice (some ⟨w.heap.size, 0, none⟩) k.toNat k.toNat, w.alloc (.cells (madeCells (T.val T.zero).cells (k.toNat * T.size)) T.id), ?_, ⟨rfl, ha.os, ha.tape, ha.output⟩, ?_, ?_, ?_, ?_⟩
  · unfold execOp
    simp only [ho, hx, hy]
    rw [e]
    exact Mem.run_v hr
  · refine .inr ⟨w.heap.size, k.toNat, _, by simp, heap_alloc_new w _, by simp, by unfold maxLen; omega, ?_, ?_⟩
    · simp [size_madeCells]
    · rw [Mem.madeCells_flat hT, List.length_replicate]
      have := hT.flat_len (List.replicate k.toNat T.zero)
      rw [List.length_replicate] at this
      rw [← this, List.take_length]
  · intro S; rw [← ha.heap]; exact Chg.push w.heap _ S
  · rw [← ha.heap]; rfl
  · rw [← ha.heap]; simp
end

/-! ### Maps -/
section
variable {κ β : Type} [DecidableEq κ] {K : KTy κ} {V : β → Value} {b : Nat} {m : List (κ × β)}
theorem l_lookup {x y : Operand} {t e : TypeId} (ho : o.op = .lookup t x y false) (hK : KTy.Ok (β := β) K P) (ht : P.underlying t = some (.map K.id e)) (z : Value) (hz : ∀ w, (zeroValue e).run P w = .ok z w) (k : κ) (hk : okOp ops n E o = true) (hx : ev E x = .map (some b)) (hy : ev E y = K.val k) (hm : Mp H K V b m)
    (h : JL P w0 ops Q n rest (put E o.dst (((aget m k).map V).getD z)) H) : JL P w0 ops Q n (o :: rest) E H := by
  refine l_read _ hk (fun w hw => ?_) h
  subst hw
  unfold execOp
  simp only [ho, hx, hy]
  exact Mem.run_v (Mem.run_lookup hm.mem hK ht k hz false)
theorem l_lookupOk {x y : Operand} {t e : TypeId} (ho : o.op = .lookup t x y true) (hK : KTy.Ok (β := β) K P) (ht : P.underlying t = some (.map K.id e)) (z : Value) (hz : ∀ w, (zeroValue e).run P w = .ok z w) (k : κ) (hk : okOp ops n E o = true) (hx : ev E x = .map (some b)) (hy : ev E y = K.val k) (hm : Mp H K V b m)
    (h : JL P w0 ops Q n rest (put E o.dst (.tuple #[((aget m k).map V).getD z, .bool (aget m k).isSome])) H) : JL P w0 ops Q n (o :: rest) E H := by
  refine l_read _ hk (fun w hw => ?_) h
  subst hw
  unfold execOp
  simp only [ho, hx, hy]
  exact Mem.run_v (Mem.run_lookup hm.mem hK ht k hz true)
/-- Behind a store into a map. -/
structure Upd (H H' : Heap) (K : KTy κ) (V : β → Value) (b : Nat) (m : List (κ × β)) : Prop where
  mp : Mp H' K V b m
  chg : Chg (fun j => j = b) H H'
theorem l_update {x y z : Operand} {t e : TypeId} (ho : o.op = .mapUpdate t x y z) (hK : KTy.Ok (β := β) K P) (ht : P.underlying t = some (.map K.id e)) (k : κ) (u : β) (hk : okOp ops n E o = true) (hx : ev E x = .map (some b)) (hy : ev E y = K.val k) (hu : ev E z = V u) (hm : Mp H K V b m)
    (h : ∀ H', Upd H H' K V b (aset m k u) → JL P w0 ops Q n rest (put E o.dst undef) H') : JL P w0 ops Q n (o :: rest) E H := by
  refine l_runs (R := fun H' => Upd H H' K V b (aset m k u)) hk (fun w ha => ?_) h
  have hm' : Mem.Mp w K V b m := by have := hm; rw [← ha.heap] at this; exact this
  obtain ⟨w', hr, h1, h2⟩ := Mem.run_update hm' hK ht k u
  refine ⟨w', ?_, ⟨rfl, h2.os.trans ha.os, h2.tape.trans ha.tape, h2.output.trans ha.output⟩, h1, ?_⟩
  · unfold execOp
    simp only [ho, hx, hy, hu]
    exact Mem.run_u hr
  · rw [← ha.heap]; exact Chg.of_mem h2
theorem l_insert {x y z : Operand} {t e : TypeId} (ho : o.op = .insert t x y z) (hK : KTy.Ok (β := β) K P) (ht : P.underlying t = some (.map K.id e)) (k : κ) (u : β) (hk : okOp ops n E o = true) (hx : ev E x = .map (some b)) (hy : ev E y = K.val k) (hu : ev E z = V u) (hm : Mp H K V b m)
    (h : ∀ H', Upd H H' K V b (aset m k u) → JL P w0 ops Q n rest (put E o.dst undef) H') : JL P w0 ops Q n (o :: rest) E H := by
  refine l_runs (R := fun H' => Upd H H' K V b (aset m k u)) hk (fun w ha => ?_) h
  have hm' : Mem.Mp w K V b m := by have := hm; rw [← ha.heap] at this; exact this
  obtain ⟨w', hr, h1, h2⟩ := Mem.run_update hm' hK ht k u
  refine ⟨w', ?_, ⟨rfl, h2.os.trans ha.os, h2.tape.trans ha.tape, h2.output.trans ha.output⟩, h1, ?_⟩
  · unfold execOp
    simp only [ho, hx, hy, hu]
    exact Mem.run_u hr
  · rw [← ha.heap]; exact Chg.of_mem h2
end

/-! ### Calls -/
def isFn (P : Program) (f : FuncId) : Bool := match P.funcs[f]? with | some fn => !(fn.name == "runtime.NumGoroutine") && fn.body.isSome | none => false
theorem run_callFunc {f : FuncId} (hf : isFn P f = true) (args : Array Value) (w : World) : (callFunc f args).run P w = .ok (.enter f args) w := by
  unfold isFn at hf
  cases h : P.funcs[f]? with
  | none => rw [h] at hf; simp at hf
  | some fn =>
    rw [h] at hf
    simp only [Bool.and_eq_true, Bool.not_eq_true'] at hf
    obtain ⟨h1, h2⟩ := hf
    cases hb : fn.body with
    | none => rw [hb] at h2; simp at h2
    | some c =>
      simp only [callFunc, program, Sem.run_bind, Sem.run, Result.andThen_ok, h, h1, hb]
      rfl
theorem l_enter {f : FuncId} {vals : Array Value} {R : Value → Heap → Prop} (hk : okOp ops n E o = true) (hrun : ∀ w, (execOp (ev E) o).run P w = .ok (.enter f vals) w) (hc : HC P f vals H R)
    (h : ∀ v H', R v H' → JL P w0 ops Q n rest (put E o.dst v) H') : JL P w0 ops Q n (o :: rest) E H := by
  intro a w hf ha
  unfold okOp at hk
  simp only [Bool.and_eq_true] at hk
  obtain ⟨⟨⟨h1, h2⟩, h3⟩, h4⟩ := hk
  unfold wpList
  rw [if_pos (want_spec hf h1)]
  refine .inl ?_
  unfold Oper.wp
  rw [exec_eq hf h2 h4, hrun w]
  simp only [Oper.upon]
  refine (hc w ha.heap).mono fun e w' ⟨v, he, hat, hR⟩ => ?_
  subst he
  exact h v _ hR _ w' (hf.put o.dst v h3) (ha.trans hat)
/-- A call of a function. -/
theorem l_call {f : FuncId} {xs : Array Operand} {ts : Array TypeId} (ho : o.op = .call { callee := .value (.func f), args := xs, argTypes := ts }) (vals : List Value) {R : Value → Heap → Prop} (hk : okOp ops n E o = true) (hx : (xs.toList.map (ev E)) = vals) (hfn : isFn P f = true) (hc : HC P f vals.toArray H R)
    (h : ∀ v H', R v H' → JL P w0 ops Q n rest (put E o.dst v) H') : JL P w0 ops Q n (o :: rest) E H := by
  have hx' : xs.map (ev E) = vals.toArray := by rw [← hx]; apply Array.ext'; simp
  refine l_enter hk (fun w => ?_) hc h
  unfold execOp
  simp only [ho, resolve, Deferred.ofValue, ev, Sem.run_bind, Sem.run_pure, Result.andThen_ok, invoke, hx', Array.empty_append, Array.append_empty]
  exact run_callFunc hfn _ w
end
end Go.J
