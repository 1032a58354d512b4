/-
  Slices with their block, from any place of it on: a queue that loses its head and grows at its end. Each law says its conditions.
-/
import Derived.Test.YtjdlkemmcnncaaaSQ
import Derived.ArgAppend
set_option linter.unusedSimpArgs false
set_option linter.unusedVariables false
namespace Go.S
open Go.Hp Go.J Go.RowKit
open Go.Mem (Ty KTy blk suf addr_add)
/-- The slice v reads as L and may be written; its block is S. -/
def OwO {α : Type} (H : Heap) (T : Ty α) (v : Value) (L : List α) (S : Nat → Prop) : Prop :=
  ((∃ p, v = .slice p 0 0) ∧ L = [] ∧ ∀ k, ¬ S k) ∨
  ∃ g off cap arr, v = .slice (some ⟨g, off, none⟩) L.length cap ∧ H[g]? = some (.cells arr T.id (0, 0)) ∧ L.length ≤ cap ∧ cap ≤ maxLen ∧ off + cap * T.size ≤ arr.size ∧
    (arr.toList.drop off).take (L.length * T.size) = T.flat L ∧ ∀ k, S k ↔ k = g
section
variable {α : Type} {T : Ty α} {v : Value} {L M : List α} {H H' : Heap} {S : Nat → Prop} {P : Program} {Z : Zone} {As : List Asr}
theorem OwO.sl (h : OwO H T v L S) : Sl H T v L := by
  rcases h with ⟨h1, h2, _⟩ | ⟨g, off, cap, arr, rfl, h1, h2, h3, h4, h5, _⟩
  · exact .inl ⟨h1, h2⟩
  · exact .inr ⟨g, off, cap, arr, _, _, rfl, h1, h2, h3, fun _ => h4, h5⟩
/-- A slice with its block, from any place on. -/
def ownO {α : Type} (T : Ty α) (v : Value) (L : List α) : Asr where
  on H S := OwO H T v L S
  lt h k hk := by
    rcases h with ⟨_, _, h⟩ | ⟨g, off, cap, arr, _, h1, _, _, _, _, hS⟩
    · exact absurd hk (h k)
    · rw [(hS k).1 hk]; exact lt_of_some h1
  keep h hk := by
    rcases h with h | ⟨g, off, cap, arr, h0, h1, h2, h3, h4, h5, hS⟩
    · exact .inl h
    · exact .inr ⟨g, off, cap, arr, h0, (hk g ((hS g).2 rfl)).trans h1, h2, h3, h4, h5, hS⟩
theorem OwO.of {v : Value} (h : Ow H T v L) (hS : ∀ k, S k ↔ blk v = some k) : OwO H T v L S := by
  rcases h with ⟨rfl, rfl⟩ | ⟨g, cap, arr, rfl, h1, h2, h3, h4, h5⟩
  · exact .inl ⟨⟨none, rfl⟩, rfl, fun k hk => by have := (hS k).1 hk; simp [blk, Value.ownBlock] at this⟩
  · refine .inr ⟨g, 0, cap, arr, rfl, h1, h2, h3, by omega, by simpa using h5, fun k => (hS k).trans ?_⟩
    simp only [blk, Value.ownBlock, Option.some.injEq]; exact eq_comm
theorem Holds.toO (h : Holds Z (own T v L :: As) H) : Holds Z (ownO T v L :: As) H := h.imp fun S ⟨S1, S2, h1, h2, hd, hS⟩ => ⟨S1, S2, OwO.of h1.1 h1.2, h2, hd, hS⟩
theorem Holds.nilO (h : Holds Z As H) : Holds Z (ownO T (.slice none 0 0) [] :: As) H := (Holds.nilS (T := T) h).toO
theorem OwO.suf (h : OwO H T v L S) (hT : T.Ok P) (n : Nat) (hn : n ≤ L.length) : OwO H T (Go.Mem.suf T.size v n) (L.drop n) S := by
  rcases h with ⟨⟨p, rfl⟩, rfl, h⟩ | ⟨g, off, cap, arr, rfl, h1, h2, h3, h4, h5, hS⟩
  · simp at hn; subst hn; exact .inl ⟨⟨_, rfl⟩, rfl, h⟩
  · by_cases hcn : cap = n
    · have : L.length = n := by omega
      refine .inr ⟨g, off, 0, arr, by simp [Mem.suf, hcn, this], h1, by simp; omega, by simp, by omega, ?_, hS⟩
      rw [List.drop_of_length_le (by omega)]
      simp [Ty.flat]
    · refine .inr ⟨g, off + n * T.size, cap - n, arr, by simp [Mem.suf, hcn, addr_add], h1, by simp; omega, by omega, ?_, ?_, hS⟩
      · have : (cap - n) * T.size + n * T.size = cap * T.size := by rw [← Nat.add_mul]; congr 1; omega
        omega
      · rw [← hT.flat_drop, ← h5, List.drop_take, List.drop_drop, List.length_drop, Nat.sub_mul]
theorem Holds.sufO {i : Nat} (h : Holds Z As H) (hT : T.Ok P) (n : Nat) (hi : gt As i = some (ownO T v L)) (hn : n ≤ L.length) : Holds Z (upd As i (ownO T (Go.Mem.suf T.size v n) (L.drop n))) H :=
  h.step hi fun S hS => ⟨S, OwO.suf hS hT n hn, Chg.refl _ _, fun k hk => .inl hk⟩
theorem setCells_heap (g : Nat) : ∀ (vs : List Value) (o : Nat) (w : World) (arr : Array Value) (t : TypeId) (fr : Nat × Nat), w.heap[g]? = some (.cells arr t fr) → o + vs.length ≤ arr.size →
    (w.setCells g o vs).heap[g]? = some (.cells (arr.toList.take o ++ vs ++ arr.toList.drop (o + vs.length)).toArray t fr) ∧ (w.setCells g o vs).heap.size = w.heap.size ∧ (∀ k, k ≠ g → (w.setCells g o vs).heap[k]? = w.heap[k]?) ∧ (w.setCells g o vs).os = w.os ∧ (w.setCells g o vs).tape = w.tape ∧ (w.setCells g o vs).output = w.output
  | [], o, w, arr, t, fr, h, _ => by
    refine ⟨?_, rfl, fun _ _ => rfl, rfl, rfl, rfl⟩
    simp [World.setCells, h]
  | v :: r, o, w, arr, t, fr, h, hl => by
    simp only [List.length_cons] at hl
    have h1 : (w.setCell ⟨g, o, none⟩ v).heap[g]? = some (.cells (arr.setIfInBounds o v) t fr) := by
      simp [World.setCell, Array.getElem?_modify, h]
    obtain ⟨i1, i2, i3, i4, i5, i6⟩ := setCells_heap g r (o + 1) (w.setCell ⟨g, o, none⟩ v) _ t fr h1 (by simp; omega)
    refine ⟨?_, ?_, fun k hk => ?_, i4, i5, i6⟩
    · show ((w.setCell ⟨g, o, none⟩ v).setCells g (o + 1) r).heap[g]? = _
      rw [i1]
      congr 2
      apply Array.toList_inj.1
      simp only [Array.toList_setIfInBounds, List.length_cons]
      have e1 : (arr.toList.set o v).take (o + 1) = arr.toList.take o ++ [v] := by
        rw [List.take_add_one, List.getElem?_set_self (by simp; omega), List.take_set_of_le (Nat.le_refl _)]; rfl
      rw [e1, List.drop_set_of_lt (by omega), show o + 1 + r.length = o + (r.length + 1) by omega]
      simp
    · rw [show w.setCells g o (v :: r) = (w.setCell ⟨g, o, none⟩ v).setCells g (o + 1) r from rfl, i2]; simp [World.setCell]
    · rw [show w.setCells g o (v :: r) = (w.setCell ⟨g, o, none⟩ v).setCells g (o + 1) r from rfl, i3 k hk]
      simp [World.setCell, Array.getElem?_modify, Ne.symm hk]
theorem run_appendO {w : World} (hT : T.Ok P) {t ty : TypeId} (ht : P.underlying t = some (.slice T.id)) {v2 : Value} (hv : OwO w.heap T v L S) (h2 : Sl w.heap T v2 M) (hbytes : (L.length + M.length) * T.bytes ≤ 140737488355328) (h63 : L.length + M.length ≤ 9223372036854775807) :
    ∃ v' w' S', (Builtin.append_ #[t, t] ty #[v, v2]).run P w = .ok v' w' ∧ OwO w'.heap T v' (L ++ M) S' ∧ Chg S w.heap w'.heap ∧ (∀ k, S' k → S k ∨ w.heap.size ≤ k) ∧ w'.os = w.os ∧ w'.tape = w.tape ∧ w'.output = w.output := by
  obtain ⟨i, hi, hsz, hby, hz⟩ := hT.info
  have h63' : L.length + M.length ≤ maxLen := by simpa [maxLen] using h63
  rw [← hby] at hbytes
  have hlenL := hT.flat_len L
  have hlenM := hT.flat_len M
  have hlen : (T.flat (L ++ M)).length = (L ++ M).length * T.size := hT.flat_len _
  have hzs : (T.val T.zero).cells.size = T.size := by have := hT.len T.zero; simpa [Ty.enc] using this
  have grown : ∀ old, old < L.length + M.length → ∃ v' w' S', v' = Value.slice (some ⟨w.heap.size, 0, none⟩) (L.length + M.length) (grownCap w (L.length + M.length) old T.id) ∧
      w' = w.drew.alloc (.cells ((T.flat L).toArray ++ (T.flat M).toArray ++ Builtin.zeroCells (T.val T.zero).cells (grownCap w (L.length + M.length) old T.id - (L.length + M.length))) T.id) ∧
      OwO w'.heap T v' (L ++ M) S' ∧ Chg S w.heap w'.heap ∧ (∀ k, S' k → S k ∨ w.heap.size ≤ k) ∧ w'.os = w.os ∧ w'.tape = w.tape ∧ w'.output = w.output := by
    intro old ho
    have hge := grownCap_ge w (L.length + M.length) old T.id
    have hcm := grownCap_le_maxLen w (L.length + M.length) old T.id h63'
    have hchg := Chg.of_mem ((Mem.Chg.refl (fun k => S k) w).drew.alloc (.cells ((T.flat L).toArray ++ (T.flat M).toArray ++ Builtin.zeroCells (T.val T.zero).cells (grownCap w (L.length + M.length) old T.id - (L.length + M.length))) T.id))
    refine ⟨_, _, fun k => k = w.heap.size, rfl, rfl, .inr ⟨w.heap.size, 0, _, _, by simp, heap_alloc_new w.drew _, by simpa using hge, hcm, ?_, ?_, fun k => Iff.rfl⟩, hchg, fun k hk => .inr (by omega), rfl, rfl, rfl⟩
    · simp only [Array.size_append, List.size_toArray, size_zeroCells, hzs, hlenL, hlenM, ← Nat.add_mul, Nat.zero_add]
      exact Nat.le_of_eq (by congr 1; omega)
    · simp only [Array.toList_append, List.append_assoc, List.drop_zero]
      rw [← hlen, Ty.flat_append, ← List.append_assoc]
      exact List.take_left
  rcases h2 with ⟨⟨p2, rfl⟩, rfl⟩ | ⟨g2, off2, cap2, arr2, e2, fr2, rfl, hg2, hc2, hm2, hf2, hr2⟩
  · refine ⟨v, w, S, ?_, by simpa using hv, Chg.refl _ _, fun k hk => .inl hk, rfl, rfl, rfl⟩
    rcases hv with ⟨⟨p, rfl⟩, rfl, _⟩ | ⟨g, off, cap, arr, rfl, hg, hc, _⟩
    · cases p <;> cases p2 <;> simp [Builtin.append_, run_underlying ht, sizeOf, typeInfo, hi, Builtin.lenOf, Builtin.firstCells, loadCells, loadCellsFrom, storeCells]
    · cases p2 <;> simp [Builtin.append_, run_underlying ht, sizeOf, typeInfo, hi, Builtin.lenOf, Builtin.firstCells, loadCells, loadCellsFrom, hc, storeCells]
  · have hnews : ∀ j u, (T.flat M)[j]? = some u → w.cell? ((⟨g2, off2, none⟩ : Addr).add j) = some u := by
      intro j u hj
      rw [← hr2, List.getElem?_take] at hj
      split at hj
      · rw [List.getElem?_drop] at hj
        rw [addr_add, cell_of_row w g2 _ arr2 e2 fr2 hg2, ← Array.getElem?_toList]; exact hj
      · cases hj
    have hl2 : (T.flat M).length = M.length * i.size := by rw [hlenM, hsz]
    by_cases hm0 : M = []
    · subst hm0
      refine ⟨v, w, S, ?_, by simpa using hv, Chg.refl _ _, fun k hk => .inl hk, rfl, rfl, rfl⟩
      rcases hv with ⟨⟨p, rfl⟩, rfl, _⟩ | ⟨g, off, cap, arr, rfl, hg, hc, _⟩
      · cases p <;> simp [Builtin.append_, run_underlying ht, sizeOf, typeInfo, hi, Builtin.lenOf, Builtin.firstCells, loadCells, loadCellsFrom, storeCells]
      · simp [Builtin.append_, run_underlying ht, sizeOf, typeInfo, hi, Builtin.lenOf, Builtin.firstCells, loadCells, loadCellsFrom, hc, storeCells]
    have hpos : 0 < M.length := List.length_pos_iff.2 hm0
    rcases hv with ⟨⟨p, rfl⟩, rfl, _⟩ | ⟨g, off, cap, arr, rfl, hg, hc, hm, hf, hr, hS⟩
    · obtain ⟨v', w', S', rfl, rfl, q⟩ := grown 0 (by simpa using hpos)
      cases p with
      | none =>
        have hrun := run_append_nil (P := P) w t ty T.id i _ ht hi hz ⟨g2, off2, none⟩ M.length cap2 (T.flat M) hl2 hnews hpos (by simp at h63; omega) (by simp at hbytes; omega)
        simp only [List.length_nil, Nat.zero_add, Ty.flat, List.flatMap_nil, Array.empty_append] at hrun q ⊢
        exact ⟨_, _, _, hrun, q⟩
      | some a =>
        have hrun := run_append_grow (P := P) w t ty T.id i _ ht hi hz a 0 0 [] (by simp) (by simp) ⟨g2, off2, none⟩ M.length cap2 (T.flat M) hl2 hnews (by omega) (by simp at h63; omega) (growslice_fits (by omega) (by simpa using hbytes))
        simp only [List.length_nil, Nat.zero_add, Ty.flat, List.flatMap_nil, Array.empty_append] at hrun q ⊢
        exact ⟨_, _, _, hrun, q⟩
    · by_cases hroom : L.length + M.length ≤ cap
      · have hfit : off + L.length * T.size + (T.flat M).length ≤ arr.size := by
          have h1 := Nat.mul_le_mul_right T.size hroom
          rw [Nat.add_mul] at h1
          rw [hlenM]; omega
        have hrun := run_append_room_cells (P := P) w t ty T.id i ht hi g off L.length cap ⟨g2, off2, none⟩ M.length cap2 (T.flat M) hl2 hnews (hT.flat_one1 M) hroom
          (fun j hj => by rw [hsz, cell_of_row w g _ arr T.id (0, 0) hg, Array.getElem?_eq_getElem (by omega)]; rfl) (fun j hj => by simp [World.frozen?, hg])
        rw [hsz] at hrun
        obtain ⟨c1, c2, c3, c4, c5, c6⟩ := setCells_heap g (T.flat M) (off + L.length * T.size) w arr T.id (0, 0) hg hfit
        refine ⟨_, _, S, hrun, .inr ⟨g, off, cap, _, by simp, c1, by simpa using hroom, hm, ?_, ?_, hS⟩, ⟨Nat.le_of_eq c2.symm, fun k hk hn => c3 k fun e => hn ((hS k).2 e)⟩, fun k hk => .inl hk, c4, c5, c6⟩
        · simp only [List.size_toArray, List.length_append, List.length_take, List.length_drop, Array.length_toList]; omega
        · have e1 : arr.toList.take (off + L.length * T.size) = arr.toList.take off ++ T.flat L := by rw [List.take_add, hr]
          have hoff : (arr.toList.take off).length = off := by rw [List.length_take, Array.length_toList]; omega
          rw [e1, List.append_assoc, List.append_assoc]
          conv => lhs; rw [show ∀ X : List Value, (arr.toList.take off ++ X).drop off = X from fun X => by rw [List.drop_append_of_le_length (by omega), List.drop_of_length_le (by omega)]; rfl]
          rw [← hlen, Ty.flat_append, ← List.append_assoc]
          exact List.take_left
      · have holds : ∀ j u, (T.flat L)[j]? = some u → w.cell? ((⟨g, off, none⟩ : Addr).add j) = some u := by
          intro j u hj
          rw [← hr, List.getElem?_take] at hj
          split at hj
          · rw [List.getElem?_drop] at hj
            rw [addr_add, cell_of_row w g _ arr T.id _ hg, ← Array.getElem?_toList]; exact hj
          · cases hj
        have hrun := run_append_grow (P := P) w t ty T.id i _ ht hi hz ⟨g, off, none⟩ L.length cap (T.flat L) (by rw [hlenL, hsz]) holds ⟨g2, off2, none⟩ M.length cap2 (T.flat M) hl2 hnews (by omega) (by omega) (growslice_fits (by omega) hbytes)
        obtain ⟨v', w', S', rfl, rfl, q⟩ := grown cap (by omega)
        exact ⟨_, _, _, hrun, q⟩
end
section
variable {P : Program} {w0 : World} {ops : Array Oper} {Q : Exit → Act → World → Prop} {n : Nat} {E : Env} {Z : Zone} {As : List Asr} {o : Oper} {rest : List Oper} {α : Type} {T : Ty α} {v : Value} {L M : List α}
theorem Acc.ownO (i : Nat) (hi : gt As i = some (Go.S.ownO T v L) := by rfl) : Acc Z As T v L := fun H h => by
  obtain ⟨S, hS, _⟩ := h.part hi; exact OwO.sl hS
theorem s_appendO {s x : Operand} {t : TypeId} {d : Nat} {v2 : Value} (i : Nat) (hT : T.Ok P) (ht : P.underlying t = some (.slice T.id)) (a : Acc Z As T v2 M) (hb : (L.length + M.length) * T.bytes ≤ 140737488355328) (h63 : L.length + M.length ≤ 9223372036854775807) (h : ∀ v', SL P w0 ops Q n rest ((d, v') :: E) Z (upd As i (ownO T v' (L ++ M)))) (ho : o.op = .call { callee := .builtin .append, args := #[s, x], argTypes := #[t, t] } := by rfl) (hA : gt As i = some (ownO T v L) := by rfl) (hs : ev E s = v := by rfl) (hx : ev E x = v2 := by rfl) (hd : o.dst = some d := by rfl) (hk : okOp ops n E o = true := by kernel_rfl) : SL P w0 ops Q n (o :: rest) E Z As := fun H hH => by
  refine l_run (R := fun v' H' => Holds Z (upd As i (ownO T v' (L ++ M))) H') hk (fun w ha => ?_) (fun v' H' h' => by rw [hd]; exact h v' H' h')
  obtain ⟨hw, hos, htape, hout⟩ := ha
  subst hw
  obtain ⟨S, hS, _⟩ := (hH.part hA)
  obtain ⟨v', w', S', hr, q1, q2, q3, q4, q5, q6⟩ := run_appendO (ty := o.type) hT ht hS (a _ hH) hb h63
  refine ⟨v', w', ?_, ⟨rfl, q4.trans hos, q5.trans htape, q6.trans hout⟩, ?_⟩
  · unfold execOp
    simp only [ho, resolve, invoke, builtin, Sem.run_bind, Sem.run_pure, Result.andThen_ok, List.map_toArray, List.map_cons, List.map_nil, hs, hx, hr]
  · refine hH.step hA fun S2 hS2 => ?_
    obtain ⟨v2', w2', S2', hr2, r1, r2, r3, _⟩ := run_appendO (ty := o.type) hT ht hS2 (a _ hH) hb h63
    rw [hr] at hr2
    injection hr2 with e1 e2
    subst e1; subst e2
    exact ⟨S2', r1, r2, r3⟩
end
end Go.S
