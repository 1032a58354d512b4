/-
  The walk's laws for maps: a look-up, a store, 'make', 'delete', 'len', 'clear'. Each law says its conditions.
-/
import Derived.Test.YtjdlkemmcnncaaaMapA
set_option linter.unusedSimpArgs false
set_option linter.unusedVariables false
set_option linter.unusedSectionVars false
namespace Go.Mem
open Go.RowKit
section
variable {κ β : Type} [DecidableEq κ] {P : Program} {K : KTy κ} {V : β → Value} {ops : Array Oper} {Q : Exit → Act → World → Prop} {a : Act} {w w' : World} {rest : List Oper} {o : Oper} {b : Nat} {m : List (κ × β)}

/-- Each entry has a stamp of its own, below the clock. -/
def Stamps (es : List MapEntry) (clock : Nat) : Prop := (es.map (·.born)).Nodup ∧ ∀ e ∈ es, e.born < clock
/-- Block b is a map with these entries. -/
def Mp (w : World) (K : KTy κ) (V : β → Value) (b : Nat) (m : List (κ × β)) : Prop :=
  ∃ es clock, w.heap[b]? = some (.map es clock) ∧ es.toList.map (fun e => (e.key, e.val)) = m.map (fun p => (K.val p.1, V p.2)) ∧ (m.map Prod.fst).Nodup ∧ Stamps es.toList clock

theorem Mp.lt (h : Mp w K V b m) : b < w.heap.size := by
  obtain ⟨es, clock, hb, _⟩ := h
  exact (Array.getElem?_eq_some_iff.1 hb).1
theorem Mp.kept (h : Mp w K V b m) (hb : w'.heap[b]? = w.heap[b]?) : Mp w' K V b m := by
  obtain ⟨es, clock, h1, r⟩ := h
  exact ⟨es, clock, hb.trans h1, r⟩
theorem Mp.alloc (h : Mp w K V b m) (ob : Obj) : Mp (w.alloc ob) K V b m := h.kept (Below.heap_alloc _ _ _ h.lt)
theorem Mp.drew (h : Mp w K V b m) : Mp w.drew K V b m := h
theorem Mp.setCell (h : Mp w K V b m) {p : Addr} (hp : b ≠ p.block) (u : Value) : Mp (w.setCell p u) K V b m := h.kept (Below.heap_setCell _ _ _ _ hp)
theorem Mp.chg {S : Nat → Prop} (h : Mp w K V b m) (c : Chg S w w') (hS : ¬ S b) : Mp w' K V b m := h.kept (c.block b h.lt hS)
theorem Mp.nodup (h : Mp w K V b m) : (m.map Prod.fst).Nodup := by obtain ⟨_, _, _, _, h, _⟩ := h; exact h
theorem Mp.made (w : World) (K : KTy κ) (V : β → Value) : Mp (w.alloc (.map #[] 0)) K V w.heap.size [] :=
  ⟨#[], 0, heap_alloc_new w _, rfl, by simp, by simp [Stamps]⟩

theorem run_getObj_map {es : Array MapEntry} {clock : Nat} (h : w.heap[b]? = some (.map es clock)) : (getObj b).run P w = .ok (.map es clock) w := by
  simp [getObj, Sem.run, h]
theorem run_setObj_map {es : Array MapEntry} {clock : Nat} (h : w.heap[b]? = some (.map es clock)) (ob : Obj) : (setObj b ob).run P w = .ok () { w with heap := w.heap.setIfInBounds b ob } := by
  simp [setObj, Sem.run, h]
theorem chg_setObj (w : World) (b : Nat) (ob : Obj) : Chg (fun k => k = b) w { w with heap := w.heap.setIfInBounds b ob } :=
  ⟨rfl, rfl, rfl, by simp, fun k _ hk => by show (w.heap.setIfInBounds b ob)[k]? = _; rw [Array.getElem?_setIfInBounds_ne (fun h => hk h.symm)]⟩
theorem heap_setObj {es : Array MapEntry} {clock : Nat} (h : w.heap[b]? = some (.map es clock)) (ob : Obj) : ({ w with heap := w.heap.setIfInBounds b ob } : World).heap[b]? = some ob := by
  have := (Array.getElem?_eq_some_iff.1 h).1
  show (w.heap.setIfInBounds b ob)[b]? = _
  simp [this]
theorem keys_of {es : Array MapEntry} (h : es.toList.map (fun e => (e.key, e.val)) = m.map (fun p => (K.val p.1, V p.2))) : es.toList.map (·.key) = m.map (K.val ·.1) := by
  have := congrArg (List.map Prod.fst) h
  simpa [List.map_map, Function.comp_def] using this
theorem entry_at {es : Array MapEntry} (h : es.toList.map (fun e => (e.key, e.val)) = m.map (fun p => (K.val p.1, V p.2))) {i : Nat} {k : κ} {x : β} (hi : m[i]? = some (k, x)) : ∃ e, es.toList[i]? = some e ∧ e.key = K.val k ∧ e.val = V x := by
  have := congrArg (·[i]?) h
  simp only [List.getElem?_map, hi, Option.map_some] at this
  cases he : es.toList[i]? with
  | none => rw [he] at this; simp at this
  | some e => rw [he] at this; simp at this; exact ⟨e, rfl, this.1, this.2⟩

/-- 'm[k]': the value, or the zero value. -/
theorem run_lookup (h : Mp w K V b m) (hK : KTy.Ok (β := β) K P) {t e : TypeId} (ht : P.underlying t = some (.map K.id e)) (k : κ) {z : Value} (hz : ∀ w, (zeroValue e).run P w = .ok z w) (ok : Bool) :
    (Instr.lookup t (.map (some b)) (K.val k) ok).run P w = .ok (if ok then .tuple #[((aget m k).map V).getD z, .bool (aget m k).isSome] else ((aget m k).map V).getD z) w := by
  obtain ⟨es, clock, hb, he, hn, hs⟩ := h
  have hf := hK.find k es.toList m (keys_of he) w
  unfold Instr.lookup
  simp only [Sem.run_bind, run_underlying ht, Result.andThen_ok, run_getObj_map hb, Sem.run_pure, hK.check, hf]
  cases hp : apos m k with
  | none =>
    rw [apos_none hp]
    simp [hz]
  | some i =>
    obtain ⟨_, x, hx, hg⟩ := apos_lt hp
    obtain ⟨e0, h1, h2, h3⟩ := entry_at he hx
    rw [hg]
    simp only [Option.bind_some, h1, Option.map_some, Option.getD_some, Option.isSome_some, h3]
    rfl
/-- .. of a nil map. -/
theorem run_lookup_nil (hK : KTy.Ok (β := β) K P) {t e : TypeId} (ht : P.underlying t = some (.map K.id e)) (k : κ) {z : Value} (hz : ∀ w, (zeroValue e).run P w = .ok z w) (ok : Bool) :
    (Instr.lookup t (.map none) (K.val k) ok).run P w = .ok (if ok then .tuple #[z, .bool false] else z) w := by
  have hf := hK.find k [] [] rfl w
  unfold Instr.lookup
  simp only [Sem.run_bind, run_underlying ht, Result.andThen_ok, Sem.run_pure, hK.check]
  rw [hf]
  simp [apos, hz]
theorem wp_lookup (hw : Region.wanted o (yielded ops a.tmps) = true) (x y : Operand) (t e : TypeId) (ho : o.op = .lookup t x y false) (hK : KTy.Ok (β := β) K P) (ht : P.underlying t = some (.map K.id e)) (z : Value) (hz : ∀ w, (zeroValue e).run P w = .ok z w)
    (k : κ) (hx : a.eval x = .map (some b)) (hy : a.eval y = K.val k) (hm : Mp w K V b m) (h : wpList P ops Q rest (a.put o.dst (((aget m k).map V).getD z)) w) : wpList P ops Q (o :: rest) a w := by
  refine wpList_run hw ?_ h
  unfold execOp
  simp only [ho, hx, hy]
  exact run_v (run_lookup hm hK ht k hz false)
theorem wp_lookupOk (hw : Region.wanted o (yielded ops a.tmps) = true) (x y : Operand) (t e : TypeId) (ho : o.op = .lookup t x y true) (hK : KTy.Ok (β := β) K P) (ht : P.underlying t = some (.map K.id e)) (z : Value) (hz : ∀ w, (zeroValue e).run P w = .ok z w)
    (k : κ) (hx : a.eval x = .map (some b)) (hy : a.eval y = K.val k) (hm : Mp w K V b m) (h : wpList P ops Q rest (a.put o.dst (.tuple #[((aget m k).map V).getD z, .bool (aget m k).isSome])) w) : wpList P ops Q (o :: rest) a w := by
  refine wpList_run hw ?_ h
  unfold execOp
  simp only [ho, hx, hy]
  exact run_v (run_lookup hm hK ht k hz true)

theorem stamps_push {es : List MapEntry} {clock : Nat} (h : Stamps es clock) (k v : Value) : Stamps (es ++ [{ key := k, val := v, born := clock }]) (clock + 1) := by
  obtain ⟨h1, h2⟩ := h
  refine ⟨?_, fun e he => ?_⟩
  · simp only [List.map_append, List.map_cons, List.map_nil]
    rw [List.nodup_append]
    refine ⟨h1, by simp, fun x hx y hy => ?_⟩
    simp only [List.mem_singleton] at hy
    obtain ⟨e, he, rfl⟩ := List.mem_map.1 hx
    have := h2 e he
    omega
  · rcases List.mem_append.1 he with h | h
    · have := h2 e h; omega
    · simp only [List.mem_singleton] at h; subst h; simp
/-- 'm[k] = x'. -/
theorem run_update (h : Mp w K V b m) (hK : KTy.Ok (β := β) K P) {t e : TypeId} (ht : P.underlying t = some (.map K.id e)) (k : κ) (x : β) :
    ∃ w', (Instr.mapUpdate t (.map (some b)) (K.val k) (V x)).run P w = .ok () w' ∧ Mp w' K V b (aset m k x) ∧ Chg (fun j => j = b) w w' := by
  obtain ⟨es, clock, hb, he, hn, hs⟩ := h
  have hf := hK.find k es.toList m (keys_of he) w
  unfold Instr.mapUpdate
  simp only [Sem.run_bind, run_underlying ht, Result.andThen_ok, run_getObj_map hb, hK.check, hf]
  cases hp : apos m k with
  | none =>
    refine ⟨_, run_setObj_map hb _, ⟨_, _, heap_setObj hb _, ?_, nodup_aset hn k x, ?_⟩, chg_setObj _ _ _⟩
    · rw [aset_new hp]; simp [he]
    · simpa using stamps_push hs (K.val k) (V x)
  | some i =>
    obtain ⟨hi, y, hy, _⟩ := apos_lt hp
    obtain ⟨e0, h1, h2, h3⟩ := entry_at he hy
    have h1' : es[i]? = some e0 := by simpa using h1
    simp only [Option.bind_some, h1, Option.map_some, h1', h2, Option.getD_some]
    have hst : (Instr.keyThatStays (K.val k) (K.val k)).run P w = .ok (K.val k) w := by
      unfold Instr.keyThatStays
      rw [if_pos (hK.bits k)]; rfl
    simp only [Sem.run_bind, hst, Result.andThen_ok]
    refine ⟨_, run_setObj_map hb _, ⟨_, _, heap_setObj hb _, ?_, nodup_aset hn k x, ?_⟩, chg_setObj _ _ _⟩
    · rw [aset_pos hp]
      apply List.ext_getElem?
      intro j
      have hj := congrArg (·[j]?) he
      simp only [List.getElem?_map, Array.getElem?_toList, Array.getElem?_modify, List.getElem?_set] at hj ⊢
      by_cases hij : i = j
      · subst hij
        simp [h1', hi]
      · simp only [hij, if_false, if_neg]
        simpa using hj
    · obtain ⟨s1, s2⟩ := hs
      have hborn : ((es.modify i fun e => { e with key := K.val k, val := V x }).toList.map (·.born)) = es.toList.map (·.born) := by
        apply List.ext_getElem?
        intro j
        simp only [List.getElem?_map, Array.getElem?_toList, Array.getElem?_modify]
        split
        · simp [Function.comp_def]
        · rfl
      refine ⟨by rw [hborn]; exact s1, fun e he' => ?_⟩
      have : e.born ∈ es.toList.map (·.born) := by rw [← hborn]; exact List.mem_map_of_mem he'
      obtain ⟨e', h1, h2⟩ := List.mem_map.1 this
      rw [← h2]; exact s2 e' h1
theorem wp_update (hw : Region.wanted o (yielded ops a.tmps) = true) (x y z : Operand) (t e : TypeId) (ho : o.op = .mapUpdate t x y z) (hK : KTy.Ok (β := β) K P) (ht : P.underlying t = some (.map K.id e))
    (k : κ) (u : β) (hx : a.eval x = .map (some b)) (hy : a.eval y = K.val k) (hu : a.eval z = V u) (hm : Mp w K V b m)
    (h : ∀ w', Mp w' K V b (aset m k u) → Chg (fun j => j = b) w w' → wpList P ops Q rest (a.put o.dst undef) w') : wpList P ops Q (o :: rest) a w := by
  obtain ⟨w', hr, h1, h2⟩ := run_update hm hK ht k u
  refine wpList_runs hw ?_ (h w' h1 h2)
  unfold execOp
  simp only [ho, hx, hy, hu]
  exact run_u hr
theorem wp_insert (hw : Region.wanted o (yielded ops a.tmps) = true) (x y z : Operand) (t e : TypeId) (ho : o.op = .insert t x y z) (hK : KTy.Ok (β := β) K P) (ht : P.underlying t = some (.map K.id e))
    (k : κ) (u : β) (hx : a.eval x = .map (some b)) (hy : a.eval y = K.val k) (hu : a.eval z = V u) (hm : Mp w K V b m)
    (h : ∀ w', Mp w' K V b (aset m k u) → Chg (fun j => j = b) w w' → wpList P ops Q rest (a.put o.dst undef) w') : wpList P ops Q (o :: rest) a w := by
  obtain ⟨w', hr, h1, h2⟩ := run_update hm hK ht k u
  refine wpList_runs hw ?_ (h w' h1 h2)
  unfold execOp
  simp only [ho, hx, hy, hu]
  exact run_u hr
/-- 'len(m)'. -/
theorem wp_mapLen (hw : Region.wanted o (yielded ops a.tmps) = true) (x : Operand) (t e k : TypeId) (ho : o.op = .call { callee := .builtin .len, args := #[x], argTypes := #[t] }) (ht : P.underlying t = some (.map k e)) (hx : a.eval x = .map (some b)) (hm : Mp w K V b m)
    (h : wpList P ops Q rest (a.put o.dst (.int .i64 m.length)) w) : wpList P ops Q (o :: rest) a w := by
  obtain ⟨es, clock, hb, he, hn, hs⟩ := hm
  have hl : es.size = m.length := by have := congrArg List.length he; simpa using this
  refine wpList_run hw ?_ h
  unfold execOp
  have : (Builtin.len_ #[t] o.type #[.map (some b)]).run P w = .ok (.int .i64 m.length) w := by
    simp [Builtin.len_, run_underlying ht, run_getObj_map hb, goInt, hl]
  simp only [ho, resolve, invoke, builtin, Sem.run_bind, Sem.run_pure, Result.andThen_ok, List.map_toArray, List.map_cons, List.map_nil, hx, this]
end
end Go.Mem
