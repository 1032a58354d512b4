/-
  A map that is ranged over while nobody writes it; parts that stay as they are (frozen). No condition but those that each rule says.
-/
import Derived.Test.YtjdlkemmcnncaaaSW
import Derived.Laws.IdiomRangeMap
set_option linter.unusedSimpArgs false
set_option linter.unusedVariables false
set_option linter.unusedSectionVars false
namespace Go.S
open Go.Hp Go.J
open Go.Mem (Ty KTy blk Stamps)

section
variable {κ β : Type} [DecidableEq κ]
def bornAt (es : Array MapEntry) (i : Nat) : Nat := ((es.toList.map (·.born))[i]?).getD 0
/-- Block b is a map, block r an iterator over it that has handed out 'done'. -/
def Rg (H : Heap) (K : KTy κ) (V : β → Value) (b r : Nat) (m done : List (κ × β)) : Prop :=
  ∃ (es : Array MapEntry) (clock : Nat) (ix : List Nat), H[b]? = some (.map es clock) ∧ es.toList.map (fun e => (e.key, e.val)) = m.map (fun p => (K.val p.1, V p.2)) ∧ (m.map Prod.fst).Nodup ∧ Stamps es.toList clock
    ∧ H[r]? = some (.mapIter (some b) clock (ix.map (bornAt es)).toArray clock) ∧ ix.Nodup ∧ (∀ i ∈ ix, i < m.length) ∧ done.map some = ix.map (fun i => m[i]?)
theorem Rg.kept {H H' : Heap} {K : KTy κ} {V : β → Value} {b r : Nat} {m done : List (κ × β)} (h : Rg H K V b r m done) (h1 : H'[b]? = H[b]?) (h2 : H'[r]? = H[r]?) : Rg H' K V b r m done := by
  obtain ⟨es, clock, ix, a, e, n, s, c, d⟩ := h
  exact ⟨es, clock, ix, h1.trans a, e, n, s, h2.trans c, d⟩
theorem Rg.lt1 {H : Heap} {K : KTy κ} {V : β → Value} {b r : Nat} {m done : List (κ × β)} (h : Rg H K V b r m done) : b < H.size := by
  obtain ⟨es, clock, ix, a, _⟩ := h; exact lt_of_some a
theorem Rg.lt2 {H : Heap} {K : KTy κ} {V : β → Value} {b r : Nat} {m done : List (κ × β)} (h : Rg H K V b r m done) : r < H.size := by
  obtain ⟨es, clock, ix, _, _, _, _, a, _⟩ := h; exact lt_of_some a
def rgA (K : KTy κ) (V : β → Value) (b r : Nat) (m done : List (κ × β)) : Asr where
  on H S := Rg H K V b r m done ∧ ∀ k, S k ↔ k = b ∨ k = r
  lt h k hk := by
    rcases (h.2 k).1 hk with rfl | rfl
    · exact h.1.lt1
    · exact h.1.lt2
  keep h hk := ⟨h.1.kept (hk _ ((h.2 _).2 (.inl rfl))) (hk _ ((h.2 _).2 (.inr rfl))), h.2⟩
theorem perm_of_ix {m done : List (κ × β)} {ix : List Nat} (hn : ix.Nodup) (hl : ∀ i ∈ ix, i < m.length) (hd : done.map some = ix.map (fun i => m[i]?)) (ha : ∀ i, i < m.length → i ∈ ix) : done.Perm m := by
  have hp : ix.Perm (List.range m.length) := (List.perm_ext_iff_of_nodup hn List.nodup_range).2 fun i => ⟨fun h => List.mem_range.2 (hl i h), fun h => ha i (List.mem_range.1 h)⟩
  have h1 : (done.map some).Perm ((List.range m.length).map (fun i => m[i]?)) := by rw [hd]; exact hp.map _
  have h2 : (List.range m.length).map (fun i => m[i]?) = m.map some := by
    apply List.ext_getElem?
    intro i
    by_cases h : i < m.length
    · simp [h]
    · simp [h]
  rw [h2] at h1
  have h3 := h1.filterMap id
  simpa [List.filterMap_map] using h3
theorem nodup_len : ∀ (n : Nat) (l : List Nat), l.Nodup → (∀ i ∈ l, i < n) → l.length ≤ n
  | 0, l, _, h => by
    cases l with
    | nil => simp
    | cons a r => exact absurd (h a (by simp)) (Nat.not_lt_zero _)
  | n + 1, l, hn, h => by
    by_cases hm : n ∈ l
    · have h1 := nodup_len n (l.erase n) (hn.erase n) fun i hi => by
        rw [hn.mem_erase_iff] at hi
        have := h i hi.2
        omega
      rw [List.length_erase_of_mem hm] at h1
      have := List.length_pos_of_mem hm
      omega
    · have := nodup_len n l hn fun i hi => by
        have := h i hi
        have : i ≠ n := fun e => hm (e ▸ hi)
        omega
      omega
theorem born_inj {es : Array MapEntry} {clock : Nat} (h : Stamps es.toList clock) {i j : Nat} (hi : i < es.size) (hj : j < es.size) (e : bornAt es i = bornAt es j) : i = j := by
  unfold bornAt at e
  have h1 : i < (es.toList.map (·.born)).length := by simpa using hi
  have h2 : j < (es.toList.map (·.born)).length := by simpa using hj
  rw [List.getElem?_eq_getElem h1, List.getElem?_eq_getElem h2, Option.getD_some, Option.getD_some] at e
  exact (List.getElem_inj (h := h.1)).1 e
theorem Rg.start {H' : Heap} {K : KTy κ} {V : β → Value} {b r : Nat} {m : List (κ × β)} {es : Array MapEntry} {clock : Nat} (h1 : H'[b]? = some (.map es clock)) (h2 : es.toList.map (fun e => (e.key, e.val)) = m.map (fun p => (K.val p.1, V p.2))) (h3 : (m.map Prod.fst).Nodup) (h4 : Stamps es.toList clock) (h5 : H'[r]? = some (.mapIter (some b) clock #[] clock)) : Rg H' K V b r m [] :=
  ⟨es, clock, [], h1, h2, h3, h4, h5, List.nodup_nil, by simp, by simp⟩
theorem Rg.mp {H : Heap} {K : KTy κ} {V : β → Value} {b r : Nat} {m done : List (κ × β)} (h : Rg H K V b r m done) : Mp H K V b m := by
  obtain ⟨es, clock, ix, a, e, n, s, _⟩ := h
  exact ⟨es, clock, a, e, n, s⟩
end
section
variable {κ β : Type} [DecidableEq κ] {P : Program} {w0 : World} {ops : Array Oper} {Q : Exit → Act → World → Prop} {n : Nat} {E : Env} {Z : Zone} {As : List Asr} {o : Oper} {rest : List Oper} {K : KTy κ} {V : β → Value} {b r : Nat} {m done : List (κ × β)}
/-- The range is over: the map is a map. -/
theorem Holds.unrange {H : Heap} (i : Nat) (h : Holds Z As H) (hi : gt As i = some (rgA K V b r m done) := by rfl) : Holds Z (upd As i (mpA K V b m)) H :=
  h.step hi fun S ⟨h1, h2⟩ => ⟨fun k => k = b, ⟨h1.mp, fun k => Iff.rfl⟩, Chg.refl _ _, fun k hk => .inl ((h2 k).2 (.inl hk))⟩
theorem s_range {x : Operand} {t e : TypeId} {d : Nat} (i : Nat) (ht : P.underlying t = some (.map K.id e)) (h : ∀ r, SL P w0 ops Q n rest ((d, .pointer (some ⟨r, 0, none⟩)) :: E) Z (upd As i (rgA K V b r m [])))
    (ho : o.op = .range t x := by rfl) (hA : gt As i = some (mpA K V b m) := by rfl) (hx : ev E x = .map (some b) := by rfl) (hd : o.dst = some d := by rfl) (hk : okOp ops n E o = true := by kernel_rfl) : SL P w0 ops Q n (o :: rest) E Z As := fun H hH => by
  obtain ⟨es, clock, hb, h2, h3, h4⟩ := hH.mp hA
  refine l_new (v := fun g => .pointer (some ⟨g, 0, none⟩)) (ob := .mapIter (some b) clock #[] clock) hk (fun w hw => ?_) fun g H' hn => ?_
  · unfold execOp
    simp only [ho, hx]
    exact Mem.run_v (run_range_map w t K.id e b es clock ht (by rw [hw]; exact hb))
  · rw [hd]
    refine h g H' (hH.step hA fun S ⟨_, hS⟩ => ⟨fun k => k = b ∨ k = g, ⟨Rg.start (es := es) ?_ h2 h3 h4 hn.is, fun k => Iff.rfl⟩, hn.chg S, ?_⟩)
    · rw [(hn.chg (fun _ => False)).block b (lt_of_some hb) (fun h => h)]; exact hb
    · rintro k (rfl | rfl)
      · exact .inl ((hS _).2 rfl)
      · exact .inr (Nat.le_of_eq hn.at_.symm)
/-- 'next', wherever the iterator lies. -/
theorem run_nextAt (w : World) (ty : TypeId) (r bm clock : Nat) (seen : Array Nat) (es : Array MapEntry) (hb : w.heap[bm]? = some (.map es clock)) (hr : w.heap[r]? = some (.mapIter (some bm) clock seen clock)) (hold : ∀ x ∈ es.toList, x.born < clock) :
    ((leftOf es seen).size = 0 ∧ (Instr.next (.pointer (some ⟨r, 0, none⟩)) false ty).run P w = .ok (.tuple #[.bool false]) w) ∨
    ∃ e ∈ (leftOf es seen).toList, ∃ w1 : World, (w1.os = w.os ∧ w1.tape = w.tape ∧ w1.output = w.output) ∧ (Instr.next (.pointer (some ⟨r, 0, none⟩)) false ty).run P w = .ok (.tuple #[.bool true, e.key, e.val]) { w1 with heap := w.heap.setIfInBounds r (.mapIter (some bm) clock (seen.push e.born) clock) } := by
  simp only [Instr.next, getObj, Sem.run_bind, Sem.run, hr, hb, Result.andThen, next_test_false seen es clock clock hold (Nat.le_refl _), Bool.false_eq_true, if_false]
  unfold leftOf
  have hmem : ∀ x ∈ (Array.filter (fun e => !seen.contains e.born) es).toList, x.born < clock := fun x hx => hold x (by simp at hx ⊢; exact hx.1)
  generalize Array.filter (fun e => !seen.contains e.born) es = L at hmem ⊢
  have e1 : L.filter (fun x => decide (x.born < clock)) = L := Array.filter_eq_self.2 (fun x hx => by simpa using hmem x (by simpa using hx))
  have e2 : L.filter (fun x => decide (x.born ≥ clock)) = #[] := by
    rw [Array.filter_eq_empty_iff]
    intro x hx
    have := hmem x (by simpa using hx)
    simp
    omega
  simp only [e1, e2, Array.append_empty]
  by_cases h0 : L.size = 0
  · left
    have : L = #[] := Array.eq_empty_of_size_eq_zero h0
    subst this
    refine ⟨rfl, ?_⟩
    simp [choose, Sem.run, Question.forced]
  · right
    have hne : L.isEmpty = false := by simp [Array.isEmpty, h0]
    simp only [hne, Bool.false_eq_true, if_false, Array.empty_append, Array.size_map]
    have hch : ∃ (j : Nat) (w1 : World), j < L.size ∧ (w1.os = w.os ∧ w1.tape = w.tape ∧ w1.output = w.output) ∧ w1.heap = w.heap ∧ (choose (Question.mapNext L.size)).run P w = .ok j w1 := by
      by_cases hf : L.size ≤ 1
      · exact ⟨0, w, by omega, ⟨rfl, rfl, rfl⟩, rfl, by simp [choose, Sem.run, Question.forced, hf]⟩
      · exact ⟨_, w.drew, Nat.mod_lt _ (by omega), ⟨rfl, rfl, rfl⟩, rfl, by
          simp only [choose, Sem.run, Question.forced, decide_eq_true_eq, hf, if_false, Question.cut]
          rfl⟩
    obtain ⟨j, w1, hj, hal, hheap, hrun⟩ := hch
    refine ⟨L[j], by simp, w1, hal, ?_⟩
    have hset : ∀ o' : Obj, (setObj r o').run P w1 = .ok () { w1 with heap := w.heap.setIfInBounds r o' } := fun o' => by
      simp only [setObj, Sem.run, hheap, hr]
    simp only [hrun, Array.getElem?_map, Array.getElem?_eq_getElem hj, Option.map_some, Sem.run_bind, hset, Result.andThen]
    rfl
theorem len_es {es : Array MapEntry} (h : es.toList.map (fun e => (e.key, e.val)) = m.map (fun p => (K.val p.1, V p.2))) : es.size = m.length := by
  have := congrArg List.length h; simpa using this
theorem at_es {es : Array MapEntry} (h : es.toList.map (fun e => (e.key, e.val)) = m.map (fun p => (K.val p.1, V p.2))) {i : Nat} {e : MapEntry} (he : es.toList[i]? = some e) : ∃ p, m[i]? = some p ∧ e.key = K.val p.1 ∧ e.val = V p.2 := by
  have := congrArg (·[i]?) h
  simp only [List.getElem?_map, he, Option.map_some] at this
  cases hm : m[i]? with
  | none => rw [hm] at this; simp at this
  | some p => rw [hm] at this; simp at this; exact ⟨p, rfl, this.1, this.2⟩
theorem s_next {x : Operand} {d : Nat} (i : Nat) (h1 : done.Perm m → SL P w0 ops Q n rest ((d, .tuple #[.bool false]) :: E) Z As)
    (h2 : ∀ k u, (k, u) ∈ m → k ∉ done.map Prod.fst → done.length < m.length → SL P w0 ops Q n rest ((d, .tuple #[.bool true, K.val k, V u]) :: E) Z (upd As i (rgA K V b r m (done ++ [(k, u)]))))
    (ho : o.op = .next x false := by rfl) (hA : gt As i = some (rgA K V b r m done) := by rfl) (hx : ev E x = .pointer (some ⟨r, 0, none⟩) := by rfl) (hd : o.dst = some d := by rfl) (hk : okOp ops n E o = true := by kernel_rfl) : SL P w0 ops Q n (o :: rest) E Z As := fun H hH => by
  obtain ⟨S, ⟨⟨es, clock, ix, hb, hes, hm, hst, hr, hn, hl, hdn⟩, hS⟩, _⟩ := hH.part hA
  have hlen := len_es hes
  have hdl : done.length = ix.length := by have := congrArg List.length hdn; simpa using this
  refine l_run (R := fun v' H' => (v' = .tuple #[.bool false] ∧ H' = H ∧ (leftOf es (ix.map (bornAt es)).toArray).size = 0) ∨ ∃ e ∈ (leftOf es (ix.map (bornAt es)).toArray).toList, v' = .tuple #[.bool true, e.key, e.val] ∧ H' = H.setIfInBounds r (.mapIter (some b) clock ((ix.map (bornAt es)).toArray.push e.born) clock)) hk (fun w ha => ?_) fun v' H' hR => ?_
  · have hw := ha.heap
    rcases run_nextAt (P := P) w o.type r b clock (ix.map (bornAt es)).toArray es (by rw [hw]; exact hb) (by rw [hw]; exact hr) hst.2 with ⟨h0, hrun⟩ | ⟨e, he, w1, hal, hrun⟩
    · exact ⟨_, w, by unfold execOp; simp only [ho, hx]; exact Mem.run_v hrun, ⟨rfl, ha.os, ha.tape, ha.output⟩, .inl ⟨rfl, hw, h0⟩⟩
    · refine ⟨_, _, by unfold execOp; simp only [ho, hx]; exact Mem.run_v hrun, ?_, .inr ⟨e, he, rfl, by rw [hw]⟩⟩
      exact ⟨rfl, hal.1.trans ha.os, hal.2.1.trans ha.tape, hal.2.2.trans ha.output⟩
  · rw [hd]
    rcases hR with ⟨rfl, rfl, h0⟩ | ⟨e, he, rfl, rfl⟩
    · refine h1 (perm_of_ix hn hl hdn fun i hi => ?_) _ hH
      have hi' : i < es.size := by omega
      have hin : es[i] ∈ es := Array.getElem_mem hi'
      have hnot : ¬ es[i] ∈ leftOf es (ix.map (bornAt es)).toArray := by
        have : leftOf es (ix.map (bornAt es)).toArray = #[] := Array.eq_empty_of_size_eq_zero h0
        rw [this]; simp
      unfold leftOf at hnot
      rw [Array.mem_filter] at hnot
      simp only [hin, true_and, Bool.not_eq_true', Bool.not_eq_false, List.contains_toArray, List.contains_iff_mem, List.mem_map] at hnot
      obtain ⟨j, hj, e⟩ := hnot
      have hb' : bornAt es i = es[i].born := by unfold bornAt; simp [hi']
      have : j = i := born_inj hst (by have := hl j hj; omega) hi' (by rw [hb']; exact e)
      exact this ▸ hj
    · have he' : e ∈ es ∧ e.born ∉ ix.map (bornAt es) := by
        have := he
        unfold leftOf at this
        simp at this
        refine ⟨this.1, fun hm' => ?_⟩
        obtain ⟨j, hj, ej⟩ := List.mem_map.1 hm'
        exact this.2 j hj ej
      obtain ⟨i', hi', hei⟩ := Array.getElem_of_mem he'.1
      have heL : es.toList[i']? = some e := by rw [Array.getElem?_toList, Array.getElem?_eq_getElem hi', hei]
      obtain ⟨⟨k, u⟩, hp, ek, eu⟩ := at_es hes heL
      have hbi : bornAt es i' = e.born := by unfold bornAt; rw [List.getElem?_map, heL]; rfl
      have hni : i' ∉ ix := fun h => he'.2 (List.mem_map.2 ⟨i', h, hbi⟩)
      have hdone : ∀ q ∈ done, ∃ j ∈ ix, m[j]? = some q := fun q hq => by
        have : some q ∈ done.map some := List.mem_map.2 ⟨q, hq, rfl⟩
        rw [hdn] at this
        obtain ⟨j, hj, ej⟩ := List.mem_map.1 this
        exact ⟨j, hj, ej⟩
      have hkd : k ∉ done.map Prod.fst := fun h => by
        obtain ⟨q, hq, eq⟩ := List.mem_map.1 h
        obtain ⟨j, hj, ej⟩ := hdone q hq
        have hlj := hl j hj
        have hli : i' < m.length := by omega
        have : j = i' := by
          have hj1 : j < (m.map Prod.fst).length := by simpa using hlj
          have hi1 : i' < (m.map Prod.fst).length := by simpa using hli
          refine (List.getElem_inj (h := hm) (h₀ := hj1) (h₁ := hi1)).1 ?_
          rw [List.getElem?_eq_getElem hlj] at ej
          rw [List.getElem?_eq_getElem hli] at hp
          simp only [List.getElem_map]
          rw [Option.some.inj ej, Option.some.inj hp]; exact eq
        exact hni (this ▸ hj)
      have hlt : done.length < m.length := by
        rw [hdl]
        have hnd : (i' :: ix).Nodup := List.nodup_cons.2 ⟨hni, hn⟩
        have := nodup_len m.length (i' :: ix) hnd fun j hj => by
          rcases List.mem_cons.1 hj with rfl | h
          · omega
          · exact hl j h
        simp at this
        omega
      have hv : (Value.tuple #[.bool true, e.key, e.val]) = .tuple #[.bool true, K.val k, V u] := by rw [ek, eu]
      rw [hv]
      refine h2 k u (List.mem_of_getElem? hp) hkd hlt _ (hH.step hA fun S' hS' => ⟨S', ⟨⟨es, clock, ix ++ [i'], ?_, hes, hm, hst, ?_, ?_, ?_, ?_⟩, hS'.2⟩, ?_, fun k hk => .inl hk⟩)
      · have hbr : b ≠ r := fun h => by rw [h] at hb; rw [hb] at hr; cases hr
        rw [Array.getElem?_setIfInBounds_ne (fun h => hbr h.symm)]; exact hb
      · rw [Array.getElem?_setIfInBounds_self_of_lt (lt_of_some hr)]
        simp [hbi]
      · rw [List.nodup_append]
        exact ⟨hn, by simp, fun a ha b hb => by simp at hb; subst hb; exact fun h => hni (h ▸ ha)⟩
      · intro j hj
        rcases List.mem_append.1 hj with h | h
        · exact hl j h
        · simp at h; omega
      · simp [hdn, hp]
      · exact ⟨by simp, fun j _ hj => by rw [Array.getElem?_setIfInBounds_ne (fun h => hj ((hS'.2 j).2 (.inr h.symm)))]⟩
theorem t_entry {x : Operand} {k : κ} {u : β} (i : Nat) (hA : gt As i = some (rgA K V b r m (done ++ [(k, u)])) := by rfl) (ho : o.op = .entry x := by rfl) (hx : ev E x = .pointer (some ⟨r, 0, none⟩) := by rfl) : Lt P E o Z As (.tuple #[K.val k, V u]) := fun H hH => by
  obtain ⟨S, ⟨⟨es, clock, ix, hb, hes, hm, hst, hr, hn, hl, hdn⟩, hS⟩, _⟩ := hH.part hA
  refine ⟨fun w hw => ?_⟩
  subst hw
  unfold execOp
  simp only [ho, hx]
  refine Mem.run_v ?_
  rw [List.map_append, List.map_cons, List.map_nil] at hdn
  rcases List.eq_nil_or_concat ix with rfl | ⟨ix0, j, rfl⟩
  · simp at hdn
  · rw [List.concat_eq_append, List.map_append, List.map_cons, List.map_nil] at hdn
    have hj := (List.append_inj' hdn rfl).2
    simp only [List.cons.injEq, and_true] at hj
    have hjl : j < es.size := by rw [len_es hes]; exact hl j (by simp)
    have heL : es.toList[j]? = some es[j] := by rw [Array.getElem?_toList, Array.getElem?_eq_getElem hjl]
    obtain ⟨p, hp, ek, eu⟩ := at_es hes heL
    rw [← hj] at hp
    cases hp
    have hbj : bornAt es j = es[j].born := by unfold bornAt; rw [List.getElem?_map, heL]; rfl
    have hf : es.find? (·.born == bornAt es j) = some es[j] := by rw [hbj, ← Array.find?_toList]; exact find_born es[j] es.toList hst.1 (by simp)
    have hback : ((List.concat ix0 j).map (bornAt es)).toArray.back? = some (bornAt es j) := by simp
    simp only [Instr.entry, getObj, Sem.run_bind, Sem.run, hr, hb, Result.andThen, hback, bne_self_eq_false, Bool.false_eq_true, if_false, hf]
    show Result.ok (Value.tuple #[es[j].key, es[j].val]) w = _
    rw [ek, eu]
end
section
theorem frz_keep {F : Heap → Prop} {H H' : Heap} {S : Nat → Prop} (h : (∀ k, S k → k < H.size) ∧ ∀ H' : Heap, (∀ k, S k → H'[k]? = H[k]?) → F H') (hk : ∀ k, S k → H'[k]? = H[k]?) : (∀ k, S k → k < H'.size) ∧ ∀ H2 : Heap, (∀ k, S k → H2[k]? = H'[k]?) → F H2 := by
  refine ⟨fun k hS => ?_, fun H2 h2 => h.2 H2 fun k hS => (h2 k hS).trans (hk k hS)⟩
  have h1 := h.1 k hS
  have h2 := hk k hS
  rcases Nat.lt_or_ge k H'.size with h' | h'
  · exact h'
  · rw [Array.getElem?_eq_none h', Array.getElem?_eq_getElem h1] at h2; cases h2
/-- What a memory says that nobody turns: F holds wherever these blocks are as they are. -/
def frz (F : Heap → Prop) : Asr where
  on H S := (∀ k, S k → k < H.size) ∧ ∀ H' : Heap, (∀ k, S k → H'[k]? = H[k]?) → F H'
  lt h := h.1
  keep h hk := frz_keep h hk
variable {Z : Zone} {As : List Asr} {H : Heap} {α : Type} {T : Ty α} {v : Value} {L : List α} {F G : Heap → Prop}
theorem Holds.frzF (h : Holds Z As H) (i : Nat) (hi : gt As i = some (frz F) := by rfl) : F H := by
  obtain ⟨S, hS, _⟩ := h.part hi; exact hS.2 H fun _ _ => rfl
theorem Holds.frz0 (h : Holds Z As H) (hF : ∀ H, F H) : Holds Z (frz F :: As) H :=
  h.new (Chg.refl _ _) (S' := fun _ => False) ⟨fun _ h => h.elim, fun H' _ => hF H'⟩ fun _ h => h.elim
/-- A slice joins. -/
theorem Holds.frzO (h : Holds Z (own T v L :: frz F :: As) H) : Holds Z (frz (fun H => Sl H T v L ∧ F H) :: As) H := h.imp fun S hS => by
  obtain ⟨S1, S2, h1, ⟨S3, S4, h3, h4, hd', hS'⟩, hd, hS⟩ := hS
  refine ⟨fun k => S1 k ∨ S3 k, S4, ⟨?_, fun H' hk => ⟨?_, h3.2 H' fun k hS => hk k (.inr hS)⟩⟩, h4, ?_, ?_⟩
  · rintro k (a | a)
    · exact (own T v L).lt h1 k a
    · exact h3.1 k a
  · have := (own T v L).keep h1 fun k a => hk k (.inl a)
    exact this.1.sl
  · rintro k (a | a) b
    · exact hd k a ((hS' k).2 (.inr b))
    · exact hd' k a b
  · intro k; rw [hS k, hS' k]; simp [or_assoc]
theorem Holds.frzM (hF : ∀ H, F H → G H) (h : Holds Z (frz F :: As) H) : Holds Z (frz G :: As) H := h.imp fun S ⟨S1, S2, h1, h2, hd, hS⟩ => ⟨S1, S2, ⟨h1.1, fun H' hk => hF H' (h1.2 H' hk)⟩, h2, hd, hS⟩
/-- Two join. -/
theorem Holds.frzJ (h : Holds Z (frz F :: frz G :: As) H) : Holds Z (frz (fun H => F H ∧ G H) :: As) H := h.imp fun S hS => by
  obtain ⟨S1, S2, h1, ⟨S3, S4, h3, h4, hd', hS'⟩, hd, hS⟩ := hS
  refine ⟨fun k => S1 k ∨ S3 k, S4, ⟨?_, fun H' hk => ⟨h1.2 H' fun k hS => hk k (.inl hS), h3.2 H' fun k hS => hk k (.inr hS)⟩⟩, h4, ?_, ?_⟩
  · rintro k (a | a)
    · exact h1.1 k a
    · exact h3.1 k a
  · rintro k (a | a) b
    · exact hd k a ((hS' k).2 (.inr b))
    · exact hd' k a b
  · intro k; rw [hS k, hS' k]; simp [or_assoc]
end
end Go.S
