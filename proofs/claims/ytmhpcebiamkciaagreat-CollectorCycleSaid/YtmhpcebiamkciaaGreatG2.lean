/-
  Slices with their block, from any place of it on: a queue that loses its head and grows at its end. Each law says its conditions.
-/
import Derived.Test.YtmhpcebiamkciaaGreatG1
import Derived.ArgAppend
import Derived.Laws.BytesString
import Derived.Laws.IdiomRangeMap
import Derived.ProofKit
import Derived.Deep.Slices
import Derived.Test.YtmhpcebiamkciaaGreatProg
section
set_option linter.unusedSimpArgs false
set_option linter.unusedVariables false
namespace Go.S
open Go.Hp Go.J Go.RowKit
open Go.Mem (Ty KTy blk suf addr_add)
def OwO {α : Type} (H : Heap) (T : Ty α) (v : Value) (L : List α) (S : Nat → Prop) : Prop :=
  ((∃ p, v = .slice p 0 0) ∧ L = [] ∧ ∀ k, ¬ S k) ∨
  ∃ g off cap arr, v = .slice (some ⟨g, off, none⟩) L.length cap ∧ H[g]? = some (.cells arr T.id (0, 0)) ∧ L.length ≤ cap ∧ cap ≤ maxLen ∧ off + cap * T.size ≤ arr.size ∧
    (arr.toList.drop off).take (L.length * T.size) = T.flat L ∧ ∀ k, S k ↔ k = g
section
variable {α : Type} {T : Ty α} {v : Value} {L M : List α} {H H' : Heap} {S : Nat → Prop} {P : Program} {Z : Zone} {As : List Asr}
theorem OwO.sl (h : OwO H T v L S) : Sl H T v L := by
  rcases h with ⟨h1, h2, _⟩ | ⟨g, off, cap, arr, rfl, h1, h2, h3, h4, h5, _⟩
  · exact .inl ⟨h1, h2⟩
  · exact .inr ⟨g, off, cap, arr, _, _, rfl, h1, h2, h3, fun _ => h4, h5⟩
def ownO {α : Type} (T : Ty α) (v : Value) (L : List α) : Asr where
  on H S := OwO H T v L S
  lt h k hk := by
    rcases h with ⟨_, _, h⟩ | ⟨g, off, cap, arr, _, h1, _, _, _, _, hS⟩
    · exact absurd hk (h k)
    · rw [(hS k).1 hk]; exact lt_of_some h1
  keep h hk := by
    rcases h with h | ⟨g, off, cap, arr, h0, h1, h2, h3, h4, h5, hS⟩
    · exact .inl h
    · exact .inr ⟨g, off, cap, arr, h0, (hk g ((hS g).2 rfl)).trans h1, h2, h3, h4, h5, hS⟩
theorem OwO.of {v : Value} (h : Ow H T v L) (hS : ∀ k, S k ↔ blk v = some k) : OwO H T v L S := by
  rcases h with ⟨rfl, rfl⟩ | ⟨g, cap, arr, rfl, h1, h2, h3, h4, h5⟩
  · exact .inl ⟨⟨none, rfl⟩, rfl, fun k hk => by have := (hS k).1 hk; simp [blk, Value.ownBlock] at this⟩
  · refine .inr ⟨g, 0, cap, arr, rfl, h1, h2, h3, by omega, by simpa using h5, fun k => (hS k).trans ?_⟩
    simp only [blk, Value.ownBlock, Option.some.injEq]; exact eq_comm
theorem Holds.toO (h : Holds Z (own T v L :: As) H) : Holds Z (ownO T v L :: As) H := h.imp fun S ⟨S1, S2, h1, h2, hd, hS⟩ => ⟨S1, S2, OwO.of h1.1 h1.2, h2, hd, hS⟩
theorem Holds.nilO (h : Holds Z As H) : Holds Z (ownO T (.slice none 0 0) [] :: As) H := (Holds.nilS (T := T) h).toO
theorem OwO.suf (h : OwO H T v L S) (hT : T.Ok P) (n : Nat) (hn : n ≤ L.length) : OwO H T (Go.Mem.suf T.size v n) (L.drop n) S := by
  rcases h with ⟨⟨p, rfl⟩, rfl, h⟩ | ⟨g, off, cap, arr, rfl, h1, h2, h3, h4, h5, hS⟩
  · simp at hn; subst hn; exact .inl ⟨⟨_, rfl⟩, rfl, h⟩
  · by_cases hcn : cap = n
    · have : L.length = n := by omega
      refine .inr ⟨g, off, 0, arr, by simp [Mem.suf, hcn, this], h1, by simp; omega, by simp, by omega, ?_, hS⟩
      rw [List.drop_of_length_le (by omega)]
      simp [Ty.flat]
    · refine .inr ⟨g, off + n * T.size, cap - n, arr, by simp [Mem.suf, hcn, addr_add], h1, by simp; omega, by omega, ?_, ?_, hS⟩
      · have : (cap - n) * T.size + n * T.size = cap * T.size := by rw [← Nat.add_mul]; congr 1; omega
        omega
      · rw [← hT.flat_drop, ← h5, List.drop_take, List.drop_drop, List.length_drop, Nat.sub_mul]
theorem Holds.sufO {i : Nat} (h : Holds Z As H) (hT : T.Ok P) (n : Nat) (hi : gt As i = some (ownO T v L)) (hn : n ≤ L.length) : Holds Z (upd As i (ownO T (Go.Mem.suf T.size v n) (L.drop n))) H :=
  h.step hi fun S hS => ⟨S, OwO.suf hS hT n hn, Chg.refl _ _, fun k hk => .inl hk⟩
theorem setCells_heap (g : Nat) : ∀ (vs : List Value) (o : Nat) (w : World) (arr : Array Value) (t : TypeId) (fr : Nat × Nat), w.heap[g]? = some (.cells arr t fr) → o + vs.length ≤ arr.size →
    (w.setCells g o vs).heap[g]? = some (.cells (arr.toList.take o ++ vs ++ arr.toList.drop (o + vs.length)).toArray t fr) ∧ (w.setCells g o vs).heap.size = w.heap.size ∧ (∀ k, k ≠ g → (w.setCells g o vs).heap[k]? = w.heap[k]?) ∧ (w.setCells g o vs).os = w.os ∧ (w.setCells g o vs).tape = w.tape ∧ (w.setCells g o vs).output = w.output
  | [], o, w, arr, t, fr, h, _ => by
    refine ⟨?_, rfl, fun _ _ => rfl, rfl, rfl, rfl⟩
    simp [World.setCells, h]
  | v :: r, o, w, arr, t, fr, h, hl => by
    simp only [List.length_cons] at hl
    have h1 : (w.setCell ⟨g, o, none⟩ v).heap[g]? = some (.cells (arr.setIfInBounds o v) t fr) := by
      simp [World.setCell, Array.getElem?_modify, h]
    obtain ⟨i1, i2, i3, i4, i5, i6⟩ := setCells_heap g r (o + 1) (w.setCell ⟨g, o, none⟩ v) _ t fr h1 (by simp; omega)
    refine ⟨?_, ?_, fun k hk => ?_, i4, i5, i6⟩
    · show ((w.setCell ⟨g, o, none⟩ v).setCells g (o + 1) r).heap[g]? = _
      rw [i1]
      congr 2
      apply Array.toList_inj.1
      simp only [Array.toList_setIfInBounds, List.length_cons]
      have e1 : (arr.toList.set o v).take (o + 1) = arr.toList.take o ++ [v] := by
        rw [List.take_add_one, List.getElem?_set_self (by simp; omega), List.take_set_of_le (Nat.le_refl _)]; rfl
      rw [e1, List.drop_set_of_lt (by omega), show o + 1 + r.length = o + (r.length + 1) by omega]
      simp
    · rw [show w.setCells g o (v :: r) = (w.setCell ⟨g, o, none⟩ v).setCells g (o + 1) r from rfl, i2]; simp [World.setCell]
    · rw [show w.setCells g o (v :: r) = (w.setCell ⟨g, o, none⟩ v).setCells g (o + 1) r from rfl, i3 k hk]
      simp [World.setCell, Array.getElem?_modify, Ne.symm hk]
theorem run_appendO {w : World} (hT : T.Ok P) {t ty : TypeId} (ht : P.underlying t = some (.slice T.id)) {v2 : Value} (hv : OwO w.heap T v L S) (h2 : Sl w.heap T v2 M) (hbytes : (L.length + M.length) * T.bytes ≤ 140737488355328) (h63 : L.length + M.length ≤ 9223372036854775807) :
    ∃ v' w' S', (Builtin.append_ #[t, t] ty #[v, v2]).run P w = .ok v' w' ∧ OwO w'.heap T v' (L ++ M) S' ∧ Chg S w.heap w'.heap ∧ (∀ k, S' k → S k ∨ w.heap.size ≤ k) ∧ w'.os = w.os ∧ w'.tape = w.tape ∧ w'.output = w.output := by
  obtain ⟨i, hi, hsz, hby, hz⟩ := hT.info
  have h63' : L.length + M.length ≤ maxLen := by simpa [maxLen] using h63
  rw [← hby] at hbytes
  have hlenL := hT.flat_len L
  have hlenM := hT.flat_len M
  have hlen : (T.flat (L ++ M)).length = (L ++ M).length * T.size := hT.flat_len _
  have hzs : (T.val T.zero).cells.size = T.size := by have := hT.len T.zero; simpa [Ty.enc] using this
  have grown : ∀ old, old < L.length + M.length → ∃ v' w' S', v' = Value.slice (some ⟨w.heap.size, 0, none⟩) (L.length + M.length) (grownCap w (L.length + M.length) old T.id) ∧
      w' = w.drew.alloc (.cells ((T.flat L).toArray ++ (T.flat M).toArray ++ Builtin.zeroCells (T.val T.zero).cells (grownCap w (L.length + M.length) old T.id - (L.length + M.length))) T.id) ∧
      OwO w'.heap T v' (L ++ M) S' ∧ Chg S w.heap w'.heap ∧ (∀ k, S' k → S k ∨ w.heap.size ≤ k) ∧ w'.os = w.os ∧ w'.tape = w.tape ∧ w'.output = w.output := by
    intro old ho
    have hge := grownCap_ge w (L.length + M.length) old T.id
    have hcm := grownCap_le_maxLen w (L.length + M.length) old T.id h63'
    have hchg := Chg.of_mem ((Mem.Chg.refl (fun k => S k) w).drew.alloc (.cells ((T.flat L).toArray ++ (T.flat M).toArray ++ Builtin.zeroCells (T.val T.zero).cells (grownCap w (L.length + M.length) old T.id - (L.length + M.length))) T.id))
    refine ⟨_, _, fun k => k = w.heap.size, rfl, rfl, .inr ⟨w.heap.size, 0, _, _, by simp, heap_alloc_new w.drew _, by simpa using hge, hcm, ?_, ?_, fun k => Iff.rfl⟩, hchg, fun k hk => .inr (by omega), rfl, rfl, rfl⟩
    · simp only [Array.size_append, List.size_toArray, size_zeroCells, hzs, hlenL, hlenM, ← Nat.add_mul, Nat.zero_add]
      exact Nat.le_of_eq (by congr 1; omega)
    · simp only [Array.toList_append, List.append_assoc, List.drop_zero]
      rw [← hlen, Ty.flat_append, ← List.append_assoc]
      exact List.take_left
  rcases h2 with ⟨⟨p2, rfl⟩, rfl⟩ | ⟨g2, off2, cap2, arr2, e2, fr2, rfl, hg2, hc2, hm2, hf2, hr2⟩
  · refine ⟨v, w, S, ?_, by simpa using hv, Chg.refl _ _, fun k hk => .inl hk, rfl, rfl, rfl⟩
    rcases hv with ⟨⟨p, rfl⟩, rfl, _⟩ | ⟨g, off, cap, arr, rfl, hg, hc, _⟩
    · cases p <;> cases p2 <;> simp [Builtin.append_, run_underlying ht, sizeOf, typeInfo, hi, Builtin.lenOf, Builtin.firstCells, loadCells, loadCellsFrom, storeCells]
    · cases p2 <;> simp [Builtin.append_, run_underlying ht, sizeOf, typeInfo, hi, Builtin.lenOf, Builtin.firstCells, loadCells, loadCellsFrom, hc, storeCells]
  · have hnews : ∀ j u, (T.flat M)[j]? = some u → w.cell? ((⟨g2, off2, none⟩ : Addr).add j) = some u := by
      intro j u hj
      rw [← hr2, List.getElem?_take] at hj
      split at hj
      · rw [List.getElem?_drop] at hj
        rw [addr_add, cell_of_row w g2 _ arr2 e2 fr2 hg2, ← Array.getElem?_toList]; exact hj
      · cases hj
    have hl2 : (T.flat M).length = M.length * i.size := by rw [hlenM, hsz]
    by_cases hm0 : M = []
    · subst hm0
      refine ⟨v, w, S, ?_, by simpa using hv, Chg.refl _ _, fun k hk => .inl hk, rfl, rfl, rfl⟩
      rcases hv with ⟨⟨p, rfl⟩, rfl, _⟩ | ⟨g, off, cap, arr, rfl, hg, hc, _⟩
      · cases p <;> simp [Builtin.append_, run_underlying ht, sizeOf, typeInfo, hi, Builtin.lenOf, Builtin.firstCells, loadCells, loadCellsFrom, storeCells]
      · simp [Builtin.append_, run_underlying ht, sizeOf, typeInfo, hi, Builtin.lenOf, Builtin.firstCells, loadCells, loadCellsFrom, hc, storeCells]
    have hpos : 0 < M.length := List.length_pos_iff.2 hm0
    rcases hv with ⟨⟨p, rfl⟩, rfl, _⟩ | ⟨g, off, cap, arr, rfl, hg, hc, hm, hf, hr, hS⟩
    · obtain ⟨v', w', S', rfl, rfl, q⟩ := grown 0 (by simpa using hpos)
      cases p with
      | none =>
        have hrun := run_append_nil (P := P) w t ty T.id i _ ht hi hz ⟨g2, off2, none⟩ M.length cap2 (T.flat M) hl2 hnews hpos (by simp at h63; omega) (by simp at hbytes; omega)
        simp only [List.length_nil, Nat.zero_add, Ty.flat, List.flatMap_nil, Array.empty_append] at hrun q ⊢
        exact ⟨_, _, _, hrun, q⟩
      | some a =>
        have hrun := run_append_grow (P := P) w t ty T.id i _ ht hi hz a 0 0 [] (by simp) (by simp) ⟨g2, off2, none⟩ M.length cap2 (T.flat M) hl2 hnews (by omega) (by simp at h63; omega) (growslice_fits (by omega) (by simpa using hbytes))
        simp only [List.length_nil, Nat.zero_add, Ty.flat, List.flatMap_nil, Array.empty_append] at hrun q ⊢
        exact ⟨_, _, _, hrun, q⟩
    · by_cases hroom : L.length + M.length ≤ cap
      · have hfit : off + L.length * T.size + (T.flat M).length ≤ arr.size := by
          have h1 := Nat.mul_le_mul_right T.size hroom
          rw [Nat.add_mul] at h1
          rw [hlenM]; omega
        have hrun := run_append_room_cells (P := P) w t ty T.id i ht hi g off L.length cap ⟨g2, off2, none⟩ M.length cap2 (T.flat M) hl2 hnews (hT.flat_one1 M) hroom
          (fun j hj => by rw [hsz, cell_of_row w g _ arr T.id (0, 0) hg, Array.getElem?_eq_getElem (by omega)]; rfl) (fun j hj => by simp [World.frozen?, hg])
        rw [hsz] at hrun
        obtain ⟨c1, c2, c3, c4, c5, c6⟩ := setCells_heap g (T.flat M) (off + L.length * T.size) w arr T.id (0, 0) hg hfit
        refine ⟨_, _, S, hrun, .inr ⟨g, off, cap, _, by simp, c1, by simpa using hroom, hm, ?_, ?_, hS⟩, ⟨Nat.le_of_eq c2.symm, fun k hk hn => c3 k fun e => hn ((hS k).2 e)⟩, fun k hk => .inl hk, c4, c5, c6⟩
        · simp only [List.size_toArray, List.length_append, List.length_take, List.length_drop, Array.length_toList]; omega
        · have e1 : arr.toList.take (off + L.length * T.size) = arr.toList.take off ++ T.flat L := by rw [List.take_add, hr]
          have hoff : (arr.toList.take off).length = off := by rw [List.length_take, Array.length_toList]; omega
          rw [e1, List.append_assoc, List.append_assoc]
          conv => lhs; rw [show ∀ X : List Value, (arr.toList.take off ++ X).drop off = X from fun X => by rw [List.drop_append_of_le_length (by omega), List.drop_of_length_le (by omega)]; rfl]
          rw [← hlen, Ty.flat_append, ← List.append_assoc]
          exact List.take_left
      · have holds : ∀ j u, (T.flat L)[j]? = some u → w.cell? ((⟨g, off, none⟩ : Addr).add j) = some u := by
          intro j u hj
          rw [← hr, List.getElem?_take] at hj
          split at hj
          · rw [List.getElem?_drop] at hj
            rw [addr_add, cell_of_row w g _ arr T.id _ hg, ← Array.getElem?_toList]; exact hj
          · cases hj
        have hrun := run_append_grow (P := P) w t ty T.id i _ ht hi hz ⟨g, off, none⟩ L.length cap (T.flat L) (by rw [hlenL, hsz]) holds ⟨g2, off2, none⟩ M.length cap2 (T.flat M) hl2 hnews (by omega) (by omega) (growslice_fits (by omega) hbytes)
        obtain ⟨v', w', S', rfl, rfl, q⟩ := grown cap (by omega)
        exact ⟨_, _, _, hrun, q⟩
end
section
variable {P : Program} {w0 : World} {ops : Array Oper} {Q : Exit → Act → World → Prop} {n : Nat} {E : Env} {Z : Zone} {As : List Asr} {o : Oper} {rest : List Oper} {α : Type} {T : Ty α} {v : Value} {L M : List α}
theorem Acc.ownO (i : Nat) (hi : gt As i = some (Go.S.ownO T v L) := by rfl) : Acc Z As T v L := fun H h => by
  obtain ⟨S, hS, _⟩ := h.part hi; exact OwO.sl hS
theorem s_appendO {s x : Operand} {t : TypeId} {d : Nat} {v2 : Value} (i : Nat) (hT : T.Ok P) (ht : P.underlying t = some (.slice T.id)) (a : Acc Z As T v2 M) (hb : (L.length + M.length) * T.bytes ≤ 140737488355328) (h63 : L.length + M.length ≤ 9223372036854775807) (h : ∀ v', SL P w0 ops Q n rest ((d, v') :: E) Z (upd As i (ownO T v' (L ++ M)))) (ho : o.op = .call { callee := .builtin .append, args := #[s, x], argTypes := #[t, t] } := by rfl) (hA : gt As i = some (ownO T v L) := by rfl) (hs : ev E s = v := by rfl) (hx : ev E x = v2 := by rfl) (hd : o.dst = some d := by rfl) (hk : okOp ops n E o = true := by kernel_rfl) : SL P w0 ops Q n (o :: rest) E Z As := fun H hH => by
  refine l_run (R := fun v' H' => Holds Z (upd As i (ownO T v' (L ++ M))) H') hk (fun w ha => ?_) (fun v' H' h' => by rw [hd]; exact h v' H' h')
  obtain ⟨hw, hos, htape, hout⟩ := ha
  subst hw
  obtain ⟨S, hS, _⟩ := (hH.part hA)
  obtain ⟨v', w', S', hr, q1, q2, q3, q4, q5, q6⟩ := run_appendO (ty := o.type) hT ht hS (a _ hH) hb h63
  refine ⟨v', w', ?_, ⟨rfl, q4.trans hos, q5.trans htape, q6.trans hout⟩, ?_⟩
  · unfold execOp
    simp only [ho, resolve, invoke, builtin, Sem.run_bind, Sem.run_pure, Result.andThen_ok, List.map_toArray, List.map_cons, List.map_nil, hs, hx, hr]
  · refine hH.step hA fun S2 hS2 => ?_
    obtain ⟨v2', w2', S2', hr2, r1, r2, r3, _⟩ := run_appendO (ty := o.type) hT ht hS2 (a _ hH) hb h63
    rw [hr] at hr2
    injection hr2 with e1 e2
    subst e1; subst e2
    exact ⟨S2', r1, r2, r3⟩
end
end Go.S
end
section
set_option linter.unusedSimpArgs false
set_option linter.unusedVariables false
namespace Go.S
open Go.Hp Go.J
open Go.Mem (Ty elemAt)
section
variable {P : Program} {E : Env} {Z : Zone} {As : List Asr} {o : Oper}
end
end Go.S
end
section
set_option linter.unusedSimpArgs false
set_option linter.unusedVariables false
namespace Go.J
open Go.Hp
variable {P : Program} {w0 : World} {Q : Exit → Act → World → Prop} {n : Nat} {E : Env} {H : Heap} {o o' : Oper} {l : List Oper} {S : Heap → Prop} {fuel : Nat} {listed : Array Bool}
theorem h_step2 (i j : Nat) (hi : l[i]? = some o) (hj : l[j]? = some o') (hr : Region.ready .any l.toArray listed = [i, j])
    (h : JL P w0 l.toArray (heldQ P l Q S fuel (listed.setIfInBounds i true)) n [o] E H)
    (h' : JL P w0 l.toArray (heldQ P l Q S fuel (listed.setIfInBounds j true)) n [o'] E H) : JH P w0 l Q n S (fuel + 1) listed E H := by
  intro a w hf ha
  refine wpAnyH_all hr (by simp) ?_
  intro k hk
  rcases List.mem_cons.1 hk with rfl | hk
  · have := h a w hf ha
    unfold wpOp
    rw [show l.toArray[k]? = some o by simpa using hi]
    exact this
  · rw [List.mem_singleton] at hk
    subst hk
    have := h' a w hf ha
    unfold wpOp
    rw [show l.toArray[k]? = some o' by simpa using hj]
    exact this
end Go.J
namespace Go.S
open Go.Hp Go.J
variable {P : Program} {w0 : World} {Q : Exit → Act → World → Prop} {n : Nat} {E : Env} {Z : Zone} {As : List Asr} {o o' : Oper} {l : List Oper} {Ks : List Asr} {fuel : Nat} {listed : Array Bool}
theorem h_stepS2 (i j : Nat) (h : SL P w0 l.toArray (heldQ P l Q (HS Z Ks) fuel (listed.setIfInBounds i true)) n [o] E Z As) (h' : SL P w0 l.toArray (heldQ P l Q (HS Z Ks) fuel (listed.setIfInBounds j true)) n [o'] E Z As) (hi : l[i]? = some o := by rfl) (hj : l[j]? = some o' := by rfl) (hr : Region.ready .any l.toArray listed = [i, j] := by kernel_rfl) : SH P w0 l Q n Z Ks (fuel + 1) listed E As :=
  fun H hH => h_step2 i j hi hj hr (h H hH) (h' H hH)
end Go.S
end
section
set_option linter.unusedSimpArgs false
set_option linter.unusedVariables false
namespace Go.S
open Go.Hp Go.J
section
variable {P : Program} {w0 : World} {ops : Array Oper} {Q : Exit → Act → World → Prop} {n : Nat} {E : Env} {Z : Zone} {As : List Asr} {α β γ δ : Type}
theorem k_mem2 {c : Code} {p : α → β → Prop} {Bs : α → β → List Asr} (hA : ∀ H, Holds Z As H → ∃ x y, p x y ∧ Holds Z (Bs x y) H) (h : ∀ x y, p x y → SK P w0 c Q n E Z (Bs x y)) : SK P w0 c Q n E Z As := fun H hH => by
  obtain ⟨x, y, hp, hB⟩ := hA H hH; exact h x y hp H hB
theorem s_mem2 {l : List Oper} {p : α → β → Prop} {Bs : α → β → List Asr} (hA : ∀ H, Holds Z As H → ∃ x y, p x y ∧ Holds Z (Bs x y) H) (h : ∀ x y, p x y → SL P w0 ops Q n l E Z (Bs x y)) : SL P w0 ops Q n l E Z As := fun H hH => by
  obtain ⟨x, y, hp, hB⟩ := hA H hH; exact h x y hp H hB
theorem k_mem3 {c : Code} {p : α → β → γ → Prop} {Bs : α → β → γ → List Asr} (hA : ∀ H, Holds Z As H → ∃ x y z, p x y z ∧ Holds Z (Bs x y z) H) (h : ∀ x y z, p x y z → SK P w0 c Q n E Z (Bs x y z)) : SK P w0 c Q n E Z As := fun H hH => by
  obtain ⟨x, y, z, hp, hB⟩ := hA H hH; exact h x y z hp H hB
theorem s_mem3 {l : List Oper} {p : α → β → γ → Prop} {Bs : α → β → γ → List Asr} (hA : ∀ H, Holds Z As H → ∃ x y z, p x y z ∧ Holds Z (Bs x y z) H) (h : ∀ x y z, p x y z → SL P w0 ops Q n l E Z (Bs x y z)) : SL P w0 ops Q n l E Z As := fun H hH => by
  obtain ⟨x, y, z, hp, hB⟩ := hA H hH; exact h x y z hp H hB
theorem k_mem4 {c : Code} {p : α → β → γ → δ → Prop} {Bs : α → β → γ → δ → List Asr} (hA : ∀ H, Holds Z As H → ∃ x y z u, p x y z u ∧ Holds Z (Bs x y z u) H) (h : ∀ x y z u, p x y z u → SK P w0 c Q n E Z (Bs x y z u)) : SK P w0 c Q n E Z As := fun H hH => by
  obtain ⟨x, y, z, u, hp, hB⟩ := hA H hH; exact h x y z u hp H hB
theorem s_mem4 {l : List Oper} {p : α → β → γ → δ → Prop} {Bs : α → β → γ → δ → List Asr} (hA : ∀ H, Holds Z As H → ∃ x y z u, p x y z u ∧ Holds Z (Bs x y z u) H) (h : ∀ x y z u, p x y z u → SL P w0 ops Q n l E Z (Bs x y z u)) : SL P w0 ops Q n l E Z As := fun H hH => by
  obtain ⟨x, y, z, u, hp, hB⟩ := hA H hH; exact h x y z u hp H hB
end
end Go.S
end
section
set_option linter.unusedSimpArgs false
set_option linter.unusedVariables false
set_option linter.unusedSectionVars false
namespace Go.S
open Go.Hp Go.J
open Go.Mem (Ty KTy blk Stamps)
section
variable {κ β : Type} [DecidableEq κ]
def bornAt (es : Array MapEntry) (i : Nat) : Nat := ((es.toList.map (·.born))[i]?).getD 0
def Rg (H : Heap) (K : KTy κ) (V : β → Value) (b r : Nat) (m done : List (κ × β)) : Prop :=
  ∃ (es : Array MapEntry) (clock : Nat) (ix : List Nat), H[b]? = some (.map es clock) ∧ es.toList.map (fun e => (e.key, e.val)) = m.map (fun p => (K.val p.1, V p.2)) ∧ (m.map Prod.fst).Nodup ∧ Stamps es.toList clock
    ∧ H[r]? = some (.mapIter (some b) clock (ix.map (bornAt es)).toArray clock) ∧ ix.Nodup ∧ (∀ i ∈ ix, i < m.length) ∧ done.map some = ix.map (fun i => m[i]?)
theorem Rg.kept {H H' : Heap} {K : KTy κ} {V : β → Value} {b r : Nat} {m done : List (κ × β)} (h : Rg H K V b r m done) (h1 : H'[b]? = H[b]?) (h2 : H'[r]? = H[r]?) : Rg H' K V b r m done := by
  obtain ⟨es, clock, ix, a, e, n, s, c, d⟩ := h
  exact ⟨es, clock, ix, h1.trans a, e, n, s, h2.trans c, d⟩
theorem Rg.start {H' : Heap} {K : KTy κ} {V : β → Value} {b r : Nat} {m : List (κ × β)} {es : Array MapEntry} {clock : Nat} (h1 : H'[b]? = some (.map es clock)) (h2 : es.toList.map (fun e => (e.key, e.val)) = m.map (fun p => (K.val p.1, V p.2))) (h3 : (m.map Prod.fst).Nodup) (h4 : Stamps es.toList clock) (h5 : H'[r]? = some (.mapIter (some b) clock #[] clock)) : Rg H' K V b r m [] :=
  ⟨es, clock, [], h1, h2, h3, h4, h5, List.nodup_nil, by simp, by simp⟩
theorem Rg.mp {H : Heap} {K : KTy κ} {V : β → Value} {b r : Nat} {m done : List (κ × β)} (h : Rg H K V b r m done) : Mp H K V b m := by
  obtain ⟨es, clock, ix, a, e, n, s, _⟩ := h
  exact ⟨es, clock, a, e, n, s⟩
end
section
variable {κ β : Type} [DecidableEq κ] {P : Program} {w0 : World} {ops : Array Oper} {Q : Exit → Act → World → Prop} {n : Nat} {E : Env} {Z : Zone} {As : List Asr} {o : Oper} {rest : List Oper} {K : KTy κ} {V : β → Value} {b r : Nat} {m done : List (κ × β)}
end
section
theorem frz_keep {F : Heap → Prop} {H H' : Heap} {S : Nat → Prop} (h : (∀ k, S k → k < H.size) ∧ ∀ H' : Heap, (∀ k, S k → H'[k]? = H[k]?) → F H') (hk : ∀ k, S k → H'[k]? = H[k]?) : (∀ k, S k → k < H'.size) ∧ ∀ H2 : Heap, (∀ k, S k → H2[k]? = H'[k]?) → F H2 := by
  refine ⟨fun k hS => ?_, fun H2 h2 => h.2 H2 fun k hS => (h2 k hS).trans (hk k hS)⟩
  have h1 := h.1 k hS
  have h2 := hk k hS
  rcases Nat.lt_or_ge k H'.size with h' | h'
  · exact h'
  · rw [Array.getElem?_eq_none h', Array.getElem?_eq_getElem h1] at h2; cases h2
def frz (F : Heap → Prop) : Asr where
  on H S := (∀ k, S k → k < H.size) ∧ ∀ H' : Heap, (∀ k, S k → H'[k]? = H[k]?) → F H'
  lt h := h.1
  keep h hk := frz_keep h hk
variable {Z : Zone} {As : List Asr} {H : Heap} {α : Type} {T : Ty α} {v : Value} {L : List α} {F G : Heap → Prop}
theorem Holds.frzF (h : Holds Z As H) (i : Nat) (hi : gt As i = some (frz F) := by rfl) : F H := by
  obtain ⟨S, hS, _⟩ := h.part hi; exact hS.2 H fun _ _ => rfl
theorem Holds.frz0 (h : Holds Z As H) (hF : ∀ H, F H) : Holds Z (frz F :: As) H :=
  h.new (Chg.refl _ _) (S' := fun _ => False) ⟨fun _ h => h.elim, fun H' _ => hF H'⟩ fun _ h => h.elim
theorem Holds.frzO (h : Holds Z (own T v L :: frz F :: As) H) : Holds Z (frz (fun H => Sl H T v L ∧ F H) :: As) H := h.imp fun S hS => by
  obtain ⟨S1, S2, h1, ⟨S3, S4, h3, h4, hd', hS'⟩, hd, hS⟩ := hS
  refine ⟨fun k => S1 k ∨ S3 k, S4, ⟨?_, fun H' hk => ⟨?_, h3.2 H' fun k hS => hk k (.inr hS)⟩⟩, h4, ?_, ?_⟩
  · rintro k (a | a)
    · exact (own T v L).lt h1 k a
    · exact h3.1 k a
  · have := (own T v L).keep h1 fun k a => hk k (.inl a)
    exact this.1.sl
  · rintro k (a | a) b
    · exact hd k a ((hS' k).2 (.inr b))
    · exact hd' k a b
  · intro k; rw [hS k, hS' k]; simp [or_assoc]
theorem Holds.frzM (hF : ∀ H, F H → G H) (h : Holds Z (frz F :: As) H) : Holds Z (frz G :: As) H := h.imp fun S ⟨S1, S2, h1, h2, hd, hS⟩ => ⟨S1, S2, ⟨h1.1, fun H' hk => hF H' (h1.2 H' hk)⟩, h2, hd, hS⟩
end
end Go.S
end
section
set_option linter.unusedSimpArgs false
set_option linter.unusedVariables false
namespace Go.S
open Go.Hp Go.J
open Go.Mem (Ty KTy blk)
def ZOk (Z : Zone) (H : Heap) : Prop := ∀ k, Z.dom k → H[k]? = Z.heap[k]? ∧ k < H.size
structure Lend (Z Z' : Zone) (K : Asr) : Prop where
  sub : ∀ H, ZOk Z' H → ZOk Z H
  has : ∀ H, ZOk Z' H → ∃ S, K.on H S
section
variable {P : Program} {Z Z' : Zone} {As As0 Bs : List Asr} {H H' : Heap} {K : Asr} {α : Type} {T : Ty α} {v : Value} {L : List α} {F : Heap → Prop}
theorem Lend.kn (h : Lend Z Z' K) (k : Kn Z T v L) : Kn Z' T v L := fun H hz => k H (h.sub H hz)
theorem Lend.own (h : Lend Z Z' (own T v L)) : Kn Z' T v L := fun H hz => by
  obtain ⟨S, hS⟩ := h.has H hz; exact hS.1.sl
theorem Lend.frz (h : Lend Z Z' (frz F)) : ∀ H, ZOk Z' H → F H := fun H hz => by
  obtain ⟨S, hS⟩ := h.has H hz; exact hS.2 H fun _ _ => rfl
variable {w0 : World} {ops : Array Oper} {Q : Exit → Act → World → Prop} {n : Nat} {E : Env} {o : Oper} {rest : List Oper} {f : FuncId} {xs : Array Operand} {ts : Array TypeId} {vals : List Value} {R : Value → List Asr → Prop}
end
end Go.S
end
section
set_option linter.unusedSimpArgs false
set_option linter.unusedVariables false
set_option linter.unusedSectionVars false
namespace Go.J
open Go.Hp
variable {P : Program} {w0 : World} {Q : Exit → Act → World → Prop} {n : Nat} {E : Env} {H : Heap} {o o' o2 : Oper} {l : List Oper} {S : Heap → Prop} {fuel : Nat} {listed : Array Bool}
theorem h_step3 (i j m : Nat) (hi : l[i]? = some o) (hj : l[j]? = some o') (hm : l[m]? = some o2) (hr : Region.ready .any l.toArray listed = [i, j, m])
    (h : JL P w0 l.toArray (heldQ P l Q S fuel (listed.setIfInBounds i true)) n [o] E H)
    (h' : JL P w0 l.toArray (heldQ P l Q S fuel (listed.setIfInBounds j true)) n [o'] E H)
    (h2 : JL P w0 l.toArray (heldQ P l Q S fuel (listed.setIfInBounds m true)) n [o2] E H) : JH P w0 l Q n S (fuel + 1) listed E H := by
  intro a w hf ha
  refine wpAnyH_all hr (by simp) ?_
  intro k hk
  rcases List.mem_cons.1 hk with rfl | hk
  · have := h a w hf ha
    unfold wpOp
    rw [show l.toArray[k]? = some o by simpa using hi]
    exact this
  · rcases List.mem_cons.1 hk with rfl | hk
    · have := h' a w hf ha
      unfold wpOp
      rw [show l.toArray[k]? = some o' by simpa using hj]
      exact this
    · rw [List.mem_singleton] at hk
      subst hk
      have := h2 a w hf ha
      unfold wpOp
      rw [show l.toArray[k]? = some o2 by simpa using hm]
      exact this
theorem h_stepN (L : List (Nat × Oper)) (hL : (L.all fun p => (l[p.1]?).isSome) = true) (hr : Region.ready .any l.toArray listed = L.map (·.1)) (hne : L ≠ [])
    (h : ∀ p ∈ L, l[p.1]? = some p.2 ∧ JL P w0 l.toArray (heldQ P l Q S fuel (listed.setIfInBounds p.1 true)) n [p.2] E H) : JH P w0 l Q n S (fuel + 1) listed E H := by
  intro a w hf ha
  refine wpAnyH_all hr (by simpa using hne) ?_
  intro k hk
  obtain ⟨p, hp, rfl⟩ := List.mem_map.1 hk
  obtain ⟨h1, h2⟩ := h p hp
  have := h2 a w hf ha
  unfold wpOp
  rw [show l.toArray[p.1]? = some p.2 by simpa using h1]
  exact this
end Go.J
namespace Go.S
open Go.Hp Go.J
theorem h_stepS4 {P : Program} {w0 : World} {Q : Exit → Act → World → Prop} {n : Nat} {E : Env} {Z : Zone} {As : List Asr} {o o' o2 o3 : Oper} {l : List Oper} {Ks : List Asr} {fuel : Nat} {listed : Array Bool} (i j m q : Nat) (h : SL P w0 l.toArray (heldQ P l Q (HS Z Ks) fuel (listed.setIfInBounds i true)) n [o] E Z As) (h' : SL P w0 l.toArray (heldQ P l Q (HS Z Ks) fuel (listed.setIfInBounds j true)) n [o'] E Z As) (h2 : SL P w0 l.toArray (heldQ P l Q (HS Z Ks) fuel (listed.setIfInBounds m true)) n [o2] E Z As) (h3 : SL P w0 l.toArray (heldQ P l Q (HS Z Ks) fuel (listed.setIfInBounds q true)) n [o3] E Z As) (hi : l[i]? = some o := by rfl) (hj : l[j]? = some o' := by rfl) (hm : l[m]? = some o2 := by rfl) (hq : l[q]? = some o3 := by rfl) (hr : Region.ready .any l.toArray listed = [i, j, m, q] := by kernel_rfl) : SH P w0 l Q n Z Ks (fuel + 1) listed E As :=
  fun H hH => h_stepN [(i, o), (j, o'), (m, o2), (q, o3)] (by simp [hi, hj, hm, hq]) hr (by simp) (by
    intro p hp
    simp only [List.mem_cons, List.not_mem_nil, or_false] at hp
    rcases hp with rfl | rfl | rfl | rfl
    · exact ⟨hi, h H hH⟩
    · exact ⟨hj, h' H hH⟩
    · exact ⟨hm, h2 H hH⟩
    · exact ⟨hq, h3 H hH⟩)
theorem h_stepS3 {P : Program} {w0 : World} {Q : Exit → Act → World → Prop} {n : Nat} {E : Env} {Z : Zone} {As : List Asr} {o o' o2 : Oper} {l : List Oper} {Ks : List Asr} {fuel : Nat} {listed : Array Bool} (i j m : Nat) (h : SL P w0 l.toArray (heldQ P l Q (HS Z Ks) fuel (listed.setIfInBounds i true)) n [o] E Z As) (h' : SL P w0 l.toArray (heldQ P l Q (HS Z Ks) fuel (listed.setIfInBounds j true)) n [o'] E Z As) (h2 : SL P w0 l.toArray (heldQ P l Q (HS Z Ks) fuel (listed.setIfInBounds m true)) n [o2] E Z As) (hi : l[i]? = some o := by rfl) (hj : l[j]? = some o' := by rfl) (hm : l[m]? = some o2 := by rfl) (hr : Region.ready .any l.toArray listed = [i, j, m] := by kernel_rfl) : SH P w0 l Q n Z Ks (fuel + 1) listed E As :=
  fun H hH => h_step3 i j m hi hj hm hr (h H hH) (h' H hH) (h2 H hH)
open Go.Mem (Ty KTy blk Stamps elemAt pre suf aget aset adel apos nodup_adel adel_pos adel_none)
/-! ### Stars -/
theorem erase_map {α β : Type} (f : α → β) : ∀ (l : List α) (i : Nat), (l.map f).eraseIdx i = (l.eraseIdx i).map f
  | [], _ => rfl
  | _ :: _, 0 => rfl
  | a :: r, i + 1 => congrArg (f a :: ·) (erase_map f r i)
theorem gt_eq : ∀ (L : List Asr) (i : Nat), gt L i = L[i]?
  | [], _ => rfl
  | _ :: _, 0 => rfl
  | _ :: r, i + 1 => by rw [List.getElem?_cons_succ]; exact gt_eq r i
theorem upd_eq : ∀ (L : List Asr) (i : Nat) (B : Asr), upd L i B = L.set i B
  | [], _, _ => rfl
  | _ :: _, 0, _ => rfl
  | A :: r, i + 1, B => congrArg (A :: ·) (upd_eq r i B)
theorem del_eq : ∀ (L : List Asr) (i : Nat), del L i = L.eraseIdx i
  | [], _ => rfl
  | _ :: _, 0 => rfl
  | A :: r, i + 1 => congrArg (A :: ·) (del_eq r i)
abbrev star (L : List Asr) : Asr := stA True L
section
variable {Z : Zone} {As Bs L : List Asr} {H : Heap} {A A' : Asr} {i : Nat}
theorem Holds.star_out (h : Holds Z (star L :: As) H) : Holds Z (L ++ As) H := h.open_st.2
theorem Holds.star_in (h : Holds Z (L ++ As) H) : Holds Z (star L :: As) H := Holds.shut_st trivial h
theorem gt_append {M : List Asr} (hi : gt L i = some A) : gt (L ++ M) i = some A ∧ del (L ++ M) i = del L i ++ M := by
  rw [gt_eq] at hi
  have hl := (List.getElem?_eq_some_iff.1 hi).1
  rw [gt_eq, del_eq, del_eq, List.getElem?_append_left hl, List.eraseIdx_append_of_lt_length hl]
  exact ⟨hi, rfl⟩
theorem Holds.star_pull (h : Holds Z (star L :: As) H) (hi : gt L i = some A) : Holds Z (A :: star (del L i) :: As) H := by
  have h1 := h.star_out.pull (gt_append hi).1
  rw [(gt_append hi).2] at h1
  have h2 : Holds Z (del L i ++ (A :: As)) H := h1.perm List.perm_middle.symm
  exact h2.star_in.swap
theorem Holds.star_push (hi : gt L i = some A) (h : Holds Z (A' :: star (del L i) :: As) H) : Holds Z (star (upd L i A') :: As) H := by
  have h1 : Holds Z (del L i ++ (A' :: As)) H := h.swap.star_out
  have h2 : Holds Z (A' :: (del L i ++ As)) H := h1.perm List.perm_middle
  have h3 : Holds Z (upd (L ++ As) i A') H := by
    refine Holds.push (gt_append hi).1 ?_
    rw [(gt_append hi).2]; exact h2
  rw [upd_eq, List.set_append_left _ _ (by rw [gt_eq] at hi; exact (List.getElem?_eq_some_iff.1 hi).1), ← upd_eq] at h3
  exact h3.star_in
theorem Holds.star_add (h : Holds Z (A :: star L :: As) H) : Holds Z (star (L ++ [A]) :: As) H := by
  have h1 : Holds Z (L ++ (A :: As)) H := h.swap.star_out
  refine Holds.star_in ?_
  rw [List.append_assoc]; exact h1
theorem Holds.star_nil (h : Holds Z As H) : Holds Z (star [] :: As) H := Holds.star_in h
theorem Holds.star_get {ι : Type} {f : ι → Asr} {l : List ι} {x : ι} (h : Holds Z (star (l.map f) :: As) H) (hi : l[i]? = some x) : Holds Z (f x :: star ((l.eraseIdx i).map f) :: As) H := by
  have h1 := h.star_pull (i := i) (A := f x) (by rw [gt_eq, List.getElem?_map, hi]; rfl)
  rw [del_eq] at h1
  rwa [erase_map] at h1
theorem Holds.star_set {ι : Type} {f g : ι → Asr} {l : List ι} {x : ι} (hi : l[i]? = some x) (hg : ∀ j y, j ≠ i → l[j]? = some y → g y = f y) (h : Holds Z (g x :: star ((l.eraseIdx i).map f) :: As) H) : Holds Z (star (l.map g) :: As) H := by
  rw [← erase_map, ← del_eq] at h
  have h1 := Holds.star_push (i := i) (A := f x) (by rw [gt_eq, List.getElem?_map, hi]; rfl) h
  rw [upd_eq] at h1
  have e : (l.map f).set i (g x) = l.map g := by
    apply List.ext_getElem?
    intro j
    by_cases hj : i = j
    · subst hj
      rw [List.getElem?_set_self (by rw [List.length_map]; exact (List.getElem?_eq_some_iff.1 hi).1), List.getElem?_map, hi]; rfl
    · rw [List.getElem?_set_ne hj, List.getElem?_map, List.getElem?_map]
      cases hy : l[j]? with
      | none => rfl
      | some y => simp [hg j y (Ne.symm hj) hy]
  rw [← e]; exact h1
end
/-! ### Maps -/
section
variable {κ β : Type} [DecidableEq κ] {P : Program}
theorem run_delete {w : World} {K : KTy κ} {V : β → Value} {b : Nat} {m : List (κ × β)} (h : Mem.Mp w K V b m) (hK : KTy.Ok (β := β) K P) {t e k' : TypeId} (ht : P.underlying t = some (.map K.id e)) (k : κ) (ty : TypeId) :
    ∃ w', (Builtin.delete_ #[t, k'] ty #[.map (some b), K.val k]).run P w = .ok (.tuple #[]) w' ∧ Mem.Mp w' K V b (adel m k) ∧ Mem.Chg (fun j => j = b) w w' := by
  obtain ⟨es, clock, hb, he, hn, hs⟩ := h
  have hf := hK.find k es.toList m (Mem.keys_of he) w
  have hr : ∀ ob, (setObj b ob).run P w = .ok () { w with heap := w.heap.setIfInBounds b ob } := fun ob => Mem.run_setObj_map hb ob
  unfold Builtin.delete_
  simp only [List.getElem?_toArray, List.getElem?_cons_zero, List.getElem?_cons_succ, Sem.run_bind, run_underlying ht, Result.andThen_ok, Mem.run_getObj_map hb, hK.check, hf]
  cases hp : apos m k with
  | none =>
    refine ⟨_, by simp only [Option.bind_none, Sem.run_bind, hr, Result.andThen_ok, Sem.run_pure], ⟨_, _, Mem.heap_setObj hb _, ?_, nodup_adel hn k, hs⟩, Mem.chg_setObj _ _ _⟩
    rw [adel_none hp]; exact he
  | some i =>
    obtain ⟨hi, y, hy, _⟩ := Mem.apos_lt hp
    obtain ⟨e0, h1, h2, h3⟩ := Mem.entry_at he hy
    refine ⟨{ w with heap := w.heap.setIfInBounds b (.map (es.eraseIdxIfInBounds i) clock) }, by simp only [Option.bind_some, h1, Option.map_some, Sem.run_bind, hr, Result.andThen_ok, Sem.run_pure], ⟨es.eraseIdxIfInBounds i, clock, Mem.heap_setObj hb _, ?_, nodup_adel hn k, ?_⟩, Mem.chg_setObj _ _ _⟩
    · rw [adel_pos hp, Array.toList_eraseIdxIfInBounds, ← erase_map, ← erase_map, he]
    · refine ⟨?_, fun e' he' => ?_⟩
      · rw [Array.toList_eraseIdxIfInBounds, ← erase_map]
        exact hs.1.sublist (List.eraseIdx_sublist _ _)
      · rw [Array.toList_eraseIdxIfInBounds] at he'
        exact hs.2 e' ((List.eraseIdx_sublist _ _).subset he')
end
section
variable {κ β : Type} [DecidableEq κ] {P : Program} {w0 : World} {ops : Array Oper} {Q : Exit → Act → World → Prop} {n : Nat} {E : Env} {Z : Zone} {As : List Asr} {o : Oper} {rest : List Oper} {K : KTy κ} {V : β → Value} {b : Nat} {m : List (κ × β)}
theorem s_delete0 {x y : Operand} {t e k' : TypeId} (i : Nat) (hK : KTy.Ok (β := β) K P) (ht : P.underlying t = some (.map K.id e)) (k : κ) (h : SL P w0 ops Q n rest E Z (upd As i (mpA K V b (adel m k)))) (ho : o.op = .call { callee := .builtin .delete, args := #[x, y], argTypes := #[t, k'] } := by rfl) (hA : gt As i = some (mpA K V b m) := by rfl) (hx : ev E x = .map (some b) := by rfl) (hy : ev E y = K.val k := by rfl) (hd : o.dst = none := by rfl) (hk : okOp ops n E o = true := by kernel_rfl) : SL P w0 ops Q n (o :: rest) E Z As := fun H hH => by
  refine l_run (R := fun _ H' => Upd H H' K V b (adel m k)) hk (fun w ha => ?_) (fun v' H' u => by rw [hd]; exact h H' (mp_step hH hA u))
  have hm' : Mem.Mp w K V b m := by have := hH.mp hA; rw [← ha.heap] at this; exact this
  obtain ⟨w', hr, h1, h2⟩ := run_delete (k' := k') (ty := o.type) hm' hK ht k
  refine ⟨.tuple #[], w', ?_, ⟨rfl, h2.os.trans ha.os, h2.tape.trans ha.tape, h2.output.trans ha.output⟩, ⟨h1, ?_⟩⟩
  · unfold execOp
    simp only [ho, resolve, invoke, builtin, Sem.run_bind, Sem.run_pure, Result.andThen_ok, List.map_toArray, List.map_cons, List.map_nil, hx, hy, hr]
  · rw [← ha.heap]; exact Chg.of_mem h2
theorem t_lenM {x : Operand} {t e : TypeId} (i : Nat) (ht : P.underlying t = some (.map K.id e)) (ho : o.op = .call { callee := .builtin .len, args := #[x], argTypes := #[t] } := by rfl) (hA : gt As i = some (mpA K V b m) := by rfl) (hx : ev E x = .map (some b) := by rfl) : Lt P E o Z As (.int .i64 m.length) := fun H hH => by
  obtain ⟨es, clock, hb, he, hn, hs⟩ := hH.mp hA
  have hl : es.size = m.length := by have := congrArg List.length he; simpa using this
  refine ⟨fun w hw => ?_⟩
  have hb' : w.heap[b]? = some (.map es clock) := by rw [hw]; exact hb
  unfold execOp
  have : (Builtin.len_ #[t] o.type #[.map (some b)]).run P w = .ok (.int .i64 m.length) w := by
    simp [Builtin.len_, run_underlying ht, Mem.run_getObj_map hb', goInt, hl]
  simp only [ho, resolve, invoke, builtin, Sem.run_bind, Sem.run_pure, Result.andThen_ok, List.map_toArray, List.map_cons, List.map_nil, hx, this]
/-! ### Calls of closures -/
end
/-! ### s[:n:n] -/
section
variable {P : Program} {w0 : World} {ops : Array Oper} {Q : Exit → Act → World → Prop} {n : Nat} {E : Env} {Z : Zone} {As : List Asr} {o : Oper} {rest : List Oper} {α : Type} {T : Ty α} {v : Value} {L : List α}
def pre3 (v : Value) (m : Nat) : Value := match v with | .slice p _ _ => .slice p m m | x => x
theorem blk_pre3 (v : Value) (m : Nat) : blk (pre3 v m) = blk v := by
  cases v with
  | slice p l c => cases p <;> rfl
  | _ => rfl
theorem Ow.pre3 {H : Heap} (hv : Ow H T v L) (hT : T.Ok P) (m : Nat) (hm : m ≤ L.length) : Ow H T (S.pre3 v m) (L.take m) := by
  rcases hv with ⟨rfl, rfl⟩ | ⟨g, cap, arr, rfl, hg, hc, hx, hf, hr⟩
  · simp at hm; subst hm; exact .inl ⟨rfl, rfl⟩
  · have hl : (L.take m).length = m := by rw [List.length_take]; omega
    have := Nat.mul_le_mul_right T.size (Nat.le_trans hm hc)
    refine .inr ⟨g, m, arr, by rw [hl]; rfl, hg, by rw [hl]; exact Nat.le_refl _, by have : m ≤ cap := by omega
                                                                                     exact Nat.le_trans this hx, by omega, ?_⟩
    rw [hl, ← hT.flat_take, ← hr, List.take_take, Nat.min_eq_left (Nat.mul_le_mul_right _ hm)]
theorem Holds.pre3 {i : Nat} {H : Heap} (h : Holds Z As H) (hT : T.Ok P) (m : Nat) (hi : gt As i = some (own T v L)) (hm : m ≤ L.length) : Holds Z (upd As i (own T (S.pre3 v m) (L.take m))) H := by
  refine h.step hi fun S ⟨h1, h2⟩ => ⟨S, ⟨Ow.pre3 h1 hT m hm, fun k => ?_⟩, Chg.refl _ _, fun k hk => .inl hk⟩
  rw [h2 k, blk_pre3]
theorem run_pre3 {w : World} (hv : Mem.Sl w T v L) {t : TypeId} (ht : P.underlying t = some (.slice T.id)) (hT : T.Ok P) (q q' : IntKind) (m : Int) (h0 : 0 ≤ m) (hm : m ≤ L.length) :
    (Instr.sliceAt t v none (some (.int q m)) (some (.int q' m))).run P w = .ok (pre3 v m.toNat) w := by
  obtain ⟨p, cap, rfl⟩ := hv.form
  have hc : (m : Int) ≤ (cap : Int) := by
    rcases hv with ⟨⟨_, h⟩, rfl⟩ | ⟨g, off, cap', arr, e, fr, h, hg, hc, _⟩
    · simp at h hm; omega
    · simp at h; obtain ⟨_, rfl⟩ := h; omega
  have hz : ∀ p : Option Addr, (p.map fun x => x.add 0) = p := fun p => by cases p <;> simp [Addr.add]
  simp [Instr.sliceAt, Instr.slice, run_underlying ht, Instr.sliceBounds, Instr.sliceBound, asIntOf, h0, hc, hT.run_sizeOf, pre3, hz]
  intro hcc; exfalso; omega
theorem t_pre3 {x i j : Operand} {t : TypeId} {q q' : IntKind} (hT : T.Ok P) (ht : P.underlying t = some (.slice T.id)) (a : Acc Z As T v L) (k : Int) (m : Nat) (h0 : 0 ≤ k) (hl : k ≤ L.length) (hm : m = k.toNat) (ho : o.op = .slice t x none (some i) (some j) := by rfl) (hx : ev E x = v := by rfl) (hi : ev E i = .int q k := by rfl) (hj : ev E j = .int q' k := by rfl) : Lt P E o Z As (pre3 v m) := fun H hH => by
  subst hm
  refine ⟨fun w hw => ?_⟩
  have hv : Mem.Sl w T v L := by have := a H hH; rw [← hw] at this; exact this
  unfold execOp
  simp only [ho, hx, hi, hj, Option.map_none, Option.map_some]
  exact Mem.run_v (run_pre3 hv ht hT q q' k h0 hl)
end
/-! ### Short spellings -/
abbrev pB (g k : Nat) : Value := .pointer (some ⟨g, k, none⟩)
theorem lnm {α : Type} : (([] : List α).length = 0) ∧ (∀ (a : α) (l : List α), (a :: l).length = l.length + 1) ∧ (∀ (l r : List α), (l ++ r).length = l.length + r.length) ∧ (∀ (n : Nat) (l : List α), (l.take n).length = min n l.length) ∧ (∀ (n : Nat) (l : List α), (l.drop n).length = l.length - n) ∧ (∀ (l : List α) (i : Nat) (a : α), (l.set i a).length = l.length) ∧ (∀ (n : Nat) (a : α), (List.replicate n a).length = n) ∧ (∀ (l : List α), l.reverse.length = l.length) :=
  ⟨rfl, fun _ _ => rfl, fun _ _ => List.length_append, fun _ _ => List.length_take, fun _ _ => List.length_drop, fun _ _ _ => List.length_set, fun _ _ => List.length_replicate, fun _ => List.length_reverse⟩
theorem bls : (∀ b, (true && b) = b) ∧ (∀ b, (false && b) = false) ∧ (∀ b, (b && true) = b) ∧ (∀ b, (b && false) = false) ∧ (∀ b, (true || b) = true) ∧ (∀ b, (b || true) = true) ∧ (∀ b, (false || b) = b) ∧ (∀ b, (b || false) = b) ∧ (!true) = false ∧ (!false) = true :=
  ⟨Bool.true_and, Bool.false_and, Bool.and_true, Bool.and_false, Bool.true_or, Bool.or_true, Bool.false_or, Bool.or_false, rfl, rfl⟩
section
variable {P : Program} {w0 : World} {ops : Array Oper} {Q : Exit → Act → World → Prop} {n : Nat} {E : Env} {Z : Zone} {As : List Asr} {o : Oper} {rest : List Oper} {l : List Oper} {Ks : List Asr} {fuel : Nat} {listed : Array Bool}
theorem sp (v : Value) {d : Nat} (h : SL P w0 ops Q n rest ((d, v) :: E) Z As) (hr : ∀ w, (execOp (ev E) o).run P w = .ok (.value v) w := by exact fun _ => rfl) (hd : o.dst = some d := by rfl) (hk : okOp ops n E o = true := by kernel_rfl) : SL P w0 ops Q n (o :: rest) E Z As :=
  s_lt (t_pure v hr) h hd hk
theorem h_l {d : Nat} {v : Value} (i : Nat) (hi : l[i]? = some o) (is : List Nat) {Fs : List Asr} (t : ∀ Fs, Lt P E o Z (Ks ++ Fs) v) (h : SH P w0 l Q n Z Ks fuel (listed.setIfInBounds i true) ((d, v) :: E) As) (hQ : NP Q := by repeat (first | with_reducible exact np_finS | with_reducible apply np_then | with_reducible apply np_block)) (hd : o.dst = some d := by rfl) (hS : rearr As is = Ks ++ Fs := by rfl) (hc : canTake l listed i = true := by kernel_rfl) (hk : okOp l.toArray n E o = true := by kernel_rfl) : SH P w0 l Q n Z Ks (fuel + 1) listed E As :=
  h_lt i hi hQ is t h hd hS hc hk
theorem hp_ {d : Nat} (i : Nat) (is : List Nat) (v : Value) {Fs : List Asr} (h : SH P w0 l Q n Z Ks fuel (listed.setIfInBounds i true) ((d, v) :: E) As) (hi : l[i]? = some o := by rfl) (hr : ∀ w, (execOp (ev E) o).run P w = .ok (.value v) w := by exact fun _ => rfl) (hQ : NP Q := by repeat (first | with_reducible exact np_finS | with_reducible apply np_then | with_reducible apply np_block)) (hd : o.dst = some d := by rfl) (hS : rearr As is = Ks ++ Fs := by rfl) (hc : canTake l listed i = true := by kernel_rfl) (hk : okOp l.toArray n E o = true := by kernel_rfl) : SH P w0 l Q n Z Ks (fuel + 1) listed E As :=
  h_lt i hi hQ is (fun _ => t_pure v hr) h hd hS hc hk
theorem h_sk {d : Nat} (i : Nat) (is : List Nat) {Fs : List Asr} (h : SH P w0 l Q n Z Ks fuel (listed.setIfInBounds i true) ((d, undef) :: E) As) (hQ : NP Q := by repeat (first | with_reducible exact np_finS | with_reducible apply np_then | with_reducible apply np_block)) (hi : l[i]? = some o := by rfl) (hd : o.dst = some d := by rfl) (hS : rearr As is = Ks ++ Fs := by rfl) (hc : canTake l listed i = true := by kernel_rfl) (hu : unwant l.toArray E o = true := by kernel_rfl) (hk : dstOk n o.dst = true := by rfl) : SH P w0 l Q n Z Ks (fuel + 1) listed E As :=
  h_skipS i hQ is h hi hd hS hc hu hk
end
end Go.S
end
section
set_option linter.unusedSimpArgs false
set_option linter.unusedVariables false
namespace Go.Proofs.YtmhpcebiamkciaaGreat
open Go.Mem (aget aset adel aget_aset aget_adel)
def Agr (m : List (Vl × Nat)) (S : List Slt) : Prop := ∀ k, aget m k = lastAt S k
theorem agr_nil : Agr [] [] := fun _ => rfl
theorem agr_set {m : List (Vl × Nat)} {S : List Slt} (h : Agr m S) {k : Vl} {i : Nat} {s : Slt} (hl : lastAt S k = some i) (hs : s.key = k) : Agr m (S.set i s) := fun k' => by rw [h, lastAt_set S k k' hl hs]
theorem agr_snoc {m : List (Vl × Nat)} {S : List Slt} (h : Agr m S) (k v : Vl) : Agr (aset m k S.length) (S ++ [⟨k, v, false⟩]) := fun k' => by
  rw [aget_aset, lastAt_snoc, h]
  by_cases e : k' = k
  · simp [e]
  · rw [if_neg e, if_neg (fun h => e h.symm)]
theorem last_cases {m : List (Vl × Nat)} {S : List Slt} (h : Agr m S) (hi : OInv S) (k : Vl) : (lastAt S k = none ∧ aget m k = none ∧ thereAt S k = none ∧ oget S k = zVl) ∨
    ∃ i s, lastAt S k = some i ∧ aget m k = some i ∧ S[i]? = some s ∧ s.key = k ∧ oget S k = s.val ∧ thereAt S k = if s.gone then none else some i := by
  cases hl : lastAt S k with
  | none => exact .inl ⟨rfl, by rw [h, hl], thereAt_none hl, oget_none hl⟩
  | some i =>
    obtain ⟨s, h1, h2, _⟩ := lastAt_some hl
    exact .inr ⟨i, s, rfl, by rw [h, hl], h1, h2, oget_some hl h1, thereAt_is hl h1⟩
theorem cnt_set {S : List Slt} {i : Nat} {s t : Slt} (h : S[i]? = some t) : cnt (S.set i s) + (live [t]).length = cnt S + (live [s]).length := by
  obtain ⟨h1, h2⟩ := live_set (s := s) h
  unfold cnt; rw [h1, h2]; simp only [List.length_append]; omega
theorem cnt_gone {S : List Slt} {i : Nat} {t : Slt} (h : S[i]? = some t) (hg : t.gone = false) (k : Vl) : ((cnt (S.set i ⟨k, zVl, true⟩) : Nat) : Int) = (cnt S : Int) - 1 := by
  have := cnt_set (s := ⟨k, zVl, true⟩) h
  simp [live, hg] at this; omega
theorem cnt_val {S : List Slt} {i : Nat} {t : Slt} (h : S[i]? = some t) (hg : t.gone = false) (k v : Vl) : cnt (S.set i ⟨k, v, false⟩) = cnt S := by
  have := cnt_set (s := ⟨k, v, false⟩) h
  simp [live, hg] at this; omega
theorem cnt_snoc (S : List Slt) (k v : Vl) : cnt (S ++ [⟨k, v, false⟩]) = cnt S + 1 := by unfold cnt; rw [live_snoc]; simp
theorem cnt_live (S : List Slt) : cnt (live S) = cnt S := by unfold cnt; rw [live_live]
theorem osetL_bad {S : List Slt} {k v : Vl} (h : okKey k = false ∨ validB v = false) : osetL S k v = S := by
  unfold osetL
  rcases h with h | h
  · rw [if_pos h]
  · rw [if_pos h]; split <;> rfl
theorem osetL_rem {S : List Slt} {k v : Vl} (h1 : okKey k = true) (h2 : validB v = true) (h0 : v.kind = 0) : osetL S k v = match thereAt S k with | some i => S.set i ⟨k, zVl, true⟩ | none => S := by
  unfold osetL; rw [if_neg (by rw [h1]; decide), if_neg (by rw [h2]; decide), if_pos h0] <;> (cases thereAt S k <;> rfl)
theorem osetL_put {S : List Slt} {k v : Vl} (h1 : okKey k = true) (h2 : validB v = true) (h0 : v.kind ≠ 0) : osetL S k v = match thereAt S k with | some i => S.set i ⟨k, v, false⟩ | none => (if cnt S + 8 < S.length - cnt S then live S else S) ++ [⟨k, v, false⟩] := by
  unfold osetL; rw [if_neg (by rw [h1]; decide), if_neg (by rw [h2]; decide), if_neg h0] <;> (cases thereAt S k <;> rfl)
/-! ### Dropping the removed slots -/
def dropAt (S : List Slt) (i : Nat) (k : Vl) : Option Nat := match lastAt (live (S.take i)) k with
  | some j => some j
  | none => (lastAt S k).bind fun j => if i ≤ j then some j else none
theorem drop_old {S : List Slt} (h : OInv S) {i : Nat} {s : Slt} (hs : S[i]? = some s) : lastAt (live (S.take i)) s.key = none := by
  refine lastAt_nokey fun t ht e => ?_
  have hg := live_gone ht
  obtain ⟨j, hj⟩ := List.mem_iff_getElem?.1 (List.mem_filter.1 ht).1
  rw [List.getElem?_take] at hj
  split at hj
  · rename_i hji
    obtain ⟨hj1, e2⟩ := List.getElem?_eq_some_iff.1 hj
    obtain ⟨hi1, e3⟩ := List.getElem?_eq_some_iff.1 hs
    have := List.pairwise_iff_getElem.1 h.uniq j i hj1 hi1 hji (by rw [e2, e3, e])
    rw [e2, hg] at this; cases this
  · cases hj
theorem drop_last {S : List Slt} {i : Nat} {s : Slt} (hs : S[i]? = some s) : ∃ j, lastAt S s.key = some j ∧ i ≤ j := by
  cases hl : lastAt S s.key with
  | none => exact absurd rfl (lastAt_none hl s (List.mem_of_getElem? hs))
  | some j =>
    refine ⟨j, rfl, Nat.le_of_not_lt fun hlt => ?_⟩
    obtain ⟨t, _, _, e3⟩ := lastAt_some hl
    exact e3 i s hlt hs rfl
theorem drop_other {S : List Slt} {i : Nat} {s : Slt} (hs : S[i]? = some s) {k : Vl} (hk : s.key ≠ k) : ((lastAt S k).bind fun j => if i ≤ j then some j else none) = (lastAt S k).bind fun j => if i + 1 ≤ j then some j else none := by
  cases hl : lastAt S k with
  | none => rfl
  | some j =>
    obtain ⟨t, e1, e2, _⟩ := lastAt_some hl
    have : j ≠ i := fun e => by subst e; rw [hs] at e1; cases e1; exact hk e2
    simp only [Option.bind_some]
    by_cases h : i ≤ j
    · rw [if_pos h, if_pos (by omega)]
    · rw [if_neg h, if_neg (by omega)]
def DropI (S : List Slt) (i : Nat) (m : List (Vl × Nat)) : Prop := ∀ k, aget m k = dropAt S i k
theorem drop0 {S : List Slt} {m : List (Vl × Nat)} (h : Agr m S) : DropI S 0 m := fun k => by
  rw [h]; unfold dropAt; simp [live, lastAt]
theorem drop_end {S : List Slt} {m : List (Vl × Nat)} {i : Nat} (h : DropI S i m) (hi : S.length ≤ i) : Agr m (live S) := fun k => by
  rw [h]; unfold dropAt
  rw [List.take_of_length_le hi]
  cases hl : lastAt (live S) k with
  | some j => rfl
  | none =>
    cases h2 : lastAt S k with
    | none => rfl
    | some j => have := lastAt_lt h2; simp; omega
theorem drop_gone {S : List Slt} (ho : OInv S) {m : List (Vl × Nat)} {i : Nat} {s : Slt} (h : DropI S i m) (hs : S[i]? = some s) (hg : s.gone = true) : ∃ j, aget m s.key = some j ∧ (j ≠ i → DropI S (i + 1) m) ∧ (j = i → (m.map Prod.fst).Nodup → DropI S (i + 1) (adel m s.key)) := by
  have h1 := drop_old ho hs
  obtain ⟨j, h2, h3⟩ := drop_last hs
  have hv : live (S.take (i + 1)) = live (S.take i) := by rw [live_take hs, if_pos hg]
  have hj : aget m s.key = some j := by rw [h]; unfold dropAt; rw [h1, h2]; simp [h3]
  have hoth : ∀ k, s.key ≠ k → dropAt S i k = dropAt S (i + 1) k := fun k hk => by
    unfold dropAt; rw [hv, drop_other hs hk]
  refine ⟨j, hj, fun hne k => ?_, fun he hn k => ?_⟩
  · by_cases hk : s.key = k
    · subst hk
      rw [hj]; unfold dropAt; rw [hv, h1, h2]; simp; omega
    · rw [h, hoth k hk]
  · rw [aget_adel hn]
    by_cases hk : s.key = k
    · subst hk
      rw [if_pos rfl]; unfold dropAt; rw [hv, h1, h2]; simp; omega
    · rw [if_neg (fun e => hk e.symm), h, hoth k hk]
theorem drop_live {S : List Slt} (ho : OInv S) {m : List (Vl × Nat)} {i : Nat} {s : Slt} (h : DropI S i m) (hs : S[i]? = some s) (hg : s.gone = false) : DropI S (i + 1) (aset m s.key (live (S.take i)).length) := fun k => by
  have hv : live (S.take (i + 1)) = live (S.take i) ++ [s] := by rw [live_take hs, if_neg (by rw [hg]; decide)]
  rw [aget_aset]
  unfold dropAt
  rw [hv, lastAt_snoc]
  by_cases hk : s.key = k
  · subst hk; simp
  · rw [if_neg (fun e => hk e.symm), if_neg hk, h]
    unfold dropAt
    rw [drop_other hs hk]
/-! ### What follows -/
theorem head_live {S : List Slt} {a i : Nat} {s : Slt} (h : live ((S.drop a).take i) = []) (hs : (S.drop a)[i]? = some s) (hg : s.gone = false) : (live (S.drop a)).head? = some s := by
  have : S.drop a = (S.drop a).take i ++ s :: (S.drop a).drop (i + 1) := by
    obtain ⟨hi, e⟩ := List.getElem?_eq_some_iff.1 hs
    rw [← e, ← List.drop_eq_getElem_cons hi, List.take_append_drop]
  rw [this]
  unfold live at *
  rw [List.filter_append, h]; simp [hg]
theorem live_gone_step {S : List Slt} {i : Nat} {s : Slt} (h : live (S.take i) = []) (hs : S[i]? = some s) (hg : s.gone = true) : live (S.take (i + 1)) = [] := by rw [live_take hs, if_pos hg, h]
theorem head_none {S : List Slt} {i : Nat} (h : live (S.take i) = []) (hi : S.length ≤ i) : (live S).head? = none := by rw [List.take_of_length_le hi] at h; rw [h]; rfl
theorem onext_nil (S : List Slt) : onext S zVl = ((slotV (live S).head?).1, (slotV (live S).head?).2.1, (slotV (live S).head?).2.2, 0) := by unfold onext; rw [if_pos rfl]
theorem onext_none {S : List Slt} {k : Vl} (h : k ≠ zVl) (hl : lastAt S k = none) : onext S k = (zVl, zVl, false, 13) := by unfold onext; rw [if_neg h, hl]
theorem onext_some {S : List Slt} {k : Vl} {i : Nat} (h : k ≠ zVl) (hl : lastAt S k = some i) : onext S k = ((slotV (live (S.drop (i + 1))).head?).1, (slotV (live (S.drop (i + 1))).head?).2.1, (slotV (live (S.drop (i + 1))).head?).2.2, 0) := by unfold onext; rw [if_neg h, hl]
/-! ### The search for a slot -/
def findI (S : List Slt) (k : Vl) : Int := match lastAt S k with
  | some i => (i : Int)
  | none => -1
theorem find_step {S : List Slt} {i : Nat} {s : Slt} (k : Vl) (hs : S[i]? = some s) : findI (S.take (i + 1)) k = if s.key = k then (i : Int) else findI (S.take i) k := by
  have hl : (S.take i).length = i := by rw [List.length_take]; have := (List.getElem?_eq_some_iff.1 hs).1; omega
  have : S.take (i + 1) = S.take i ++ [s] := by rw [List.take_add_one, hs]; rfl
  unfold findI
  rw [this, lastAt_snoc, hl]
  by_cases h : s.key = k
  · simp [h]
  · simp [h]
theorem find_here {S : List Slt} (h : OInv S) {i : Nat} {s : Slt} (hs : S[i]? = some s) (hg : s.gone = false) : findI S s.key = (i : Int) := by unfold findI; rw [h.last hs hg]
theorem find_end {S : List Slt} {i : Nat} (k : Vl) (hi : S.length ≤ i) : findI (S.take i) k = findI S k := by rw [List.take_of_length_le hi]
theorem find_cases {S : List Slt} (k : Vl) : (findI S k = -1 ∧ lastAt S k = none ∧ thereAt S k = none ∧ oget S k = zVl) ∨ ∃ (i : Nat) (s : Slt), findI S k = (i : Int) ∧ lastAt S k = some i ∧ S[i]? = some s ∧ s.key = k ∧ oget S k = s.val ∧ thereAt S k = if s.gone then none else some i := by
  unfold findI
  cases hl : lastAt S k with
  | none => exact .inl ⟨rfl, rfl, thereAt_none hl, oget_none hl⟩
  | some i =>
    obtain ⟨s, h1, h2, _⟩ := lastAt_some hl
    exact .inr ⟨i, s, rfl, rfl, h1, h2, oget_some hl h1, thereAt_is hl h1⟩
end Go.Proofs.YtmhpcebiamkciaaGreat
end
section
set_option linter.unusedSimpArgs false
set_option linter.unusedVariables false
namespace Go.J
open Go.Hp Go.RowKit Go.ChangeShapes Go.WideShapes Go.ChangeAt
open Go.Mem (Ty blk)
section
variable {H : Type} {enc : TypeId × Value → H} {P : Program}
theorem trodAll_below (hl : laidOutB P = true) {W W' : World} (hb : Below W.heap.size W W') : ∀ {ts : List TypeId} {vs : List Value} {ds : List (DataW H)} {ps : List MemPlace},
    (ts.all fun t => P.readableRec t && Nat.blt t P.types.size) = true → DataW.TrodAll enc P W 0 (fun _ => true) true ts vs ds ps → (∀ x ∈ ps, x.block < W.heap.size) →
    DataW.TrodAll enc P W' 0 (fun b => decide (b < W.heap.size)) true ts vs ds ps
  | [], [], [], ps, _, h, _ => h
  | t :: ts, v :: vs, d :: ds, ps, ht, h, hlt => by
    obtain ⟨p, q, h1, h2, rfl⟩ := h
    simp only [List.all_cons, Bool.and_eq_true] at ht
    refine ⟨p, q, Below.trod hl ht.1.1 (by simpa [Nat.blt_eq] using ht.1.2) h1 hb (fun x hx => hlt x (by simp [hx])), trodAll_below hl hb ht.2 h2 (fun x hx => hlt x (by simp [hx])), rfl⟩
  | [], [], _ :: _, _, _, h, _ => h.elim
  | [], _ :: _, _, _, _, h, _ => h.elim
  | _ :: _, [], _, _, _, h, _ => h.elim
  | _ :: _, _ :: _, [], _, _, h, _ => h.elim
theorem keptBut_below {W W' : World} {may : MemPlace → Prop} (hb : Below W.heap.size W W') : W.keptBut W' may := by
  refine ⟨hb.os, hb.output, fun i hi => ?_⟩
  rw [hb.block i hi]
  have := World.keptBut_refl W may
  exact this.2.2 i hi
theorem law_post {f : Func} {s : ChangeSpec} {W W' : World} {args : Array Value} {ds : List (DataW H)} {before : List MemPlace} {tb : TypeId} (hl : laidOutB P = true) (hts : (f.params.toList.all fun t => P.readableRec t && Nat.blt t P.types.size) = true)
    (hv : s.vars = []) (hr : f.resultTypes = #[tb]) (htb : P.underlying tb = some .bool) (hb : Below W.heap.size W W') (hW : DataW.Whole enc P f.params.toList s.vars false W args.toList ds [] before)
    (hfn : s.fn H ds = { results := [.lit (.bool true)], args := ds }) : s.post enc P f false true false false W args (.bool true) W' := by
  have hlt : ∀ x ∈ before, x.block < W.heap.size := fun x hx => hW.lt x hx
  obtain ⟨p, q, hA, hV, rfl, hz, hn⟩ := hW
  rw [hv] at hV
  have hq : q = [] := hV
  subst hq
  refine ⟨ds, [], p ++ [], [], p, [], ⟨p, [], hA, by rw [hv]; rfl, rfl, hz, hn⟩, ?_, ?_, ?_, ?_, by simp⟩
  · rw [List.append_nil, hfn, hr]
    refine ⟨[], [], ⟨1, ?_⟩, rfl, rfl⟩
    simp [DataW.trod, htb, Value.cells]
  · rw [List.append_nil, hfn]
    exact trodAll_below hl hb hts hA (fun x hx => hlt x (by simp [hx]))
  · rw [hv, List.append_nil, hfn]; rfl
  · exact keptBut_below hb
theorem calls_of_hc {f : FuncId} {args : Array Value} {W : World} (h : HC P f args W.heap fun v H' => v = .bool true ∧ Chg (fun _ => False) W.heap H') :
    Calls P f args W fun e W' => e = .returned (.bool true) ∧ Below W.heap.size W W' :=
  (h W rfl).mono fun e W' ⟨v, he, hat, hv, hc⟩ => by
    subst he hv
    exact ⟨rfl, ⟨hat.os, hat.tape, hat.output, hc.size, fun k hk => hc.block k hk (fun h => h)⟩⟩
variable {w : World} {base : Nat} {spare : Nat → Bool} {held : Bool}
theorem take_one_of {l : List Value} {n : Nat} {v : Value} (h : l.take n = [v]) : l.take 1 = [v] := by
  cases l with
  | nil => simp at h
  | cons x l =>
    cases n with
    | zero => simp at h
    | succ n => simp only [List.take_succ_cons, List.cons.injEq] at h; simp [h.1]
theorem fitsL_join : ∀ {ks ks' : List Nat} {vs : List Value}, fitsL ks (vs.take ks.length) = true → fitsL ks' ((vs.drop ks.length).take ks'.length) = true → fitsL (ks ++ ks') (vs.take (ks ++ ks').length) = true
  | [], ks', vs, _, h => by simpa using h
  | k :: ks, ks', [], h, _ => by simp [fitsL] at h
  | k :: ks, ks', v :: vs, h, h' => by
    simp only [List.length_cons, List.take_succ_cons, List.drop_succ_cons, fitsL, Bool.and_eq_true] at h h'
    simp only [List.cons_append, List.length_cons, List.take_succ_cons, fitsL, Bool.and_eq_true]
    exact ⟨h.1, fitsL_join h.2 h'⟩
mutual
theorem fits_trod : ∀ (d : Nat) (t : TypeId) (ks : List Nat), kindsOf P d t = some ks → ∀ (fuel : Nat) (l : List Value) (m : Nat) (x : DataW H × List MemPlace), DataW.trod enc P w base spare held fuel t (l.take m) = some x → fitsL ks (l.take ks.length) = true ∧ ((match P.underlying t with | some (.struct _) => true | _ => false) = true → (l.take m).length = ks.length)
  | 0, _, _, hk, _, _, _, _, _ => by simp [kindsOf] at hk
  | d + 1, t, ks, hk, fuel, l, m, x, hx => by
    unfold kindsOf at hk
    cases hu : P.underlying t with
    | none => rw [hu] at hk; simp at hk
    | some u =>
      rw [hu] at hk
      cases u <;> first | (simp at hk; done) | skip
      case int q =>
        cases q <;> first | (simp at hk; done) | skip
        simp only [Option.some.injEq] at hk
        subst hk
        obtain ⟨n, h1, _, _⟩ := DataW.trod_int hu hx
        exact ⟨by rw [show [0].length = 1 from rfl, take_one_of h1]; rfl, by simp⟩
      case bool =>
        simp only [Option.some.injEq] at hk
        subst hk
        obtain ⟨n, h1, _⟩ := DataW.trod_bool hu hx
        exact ⟨by rw [show [2].length = 1 from rfl, take_one_of h1]; rfl, by simp⟩
      case string =>
        simp only [Option.some.injEq] at hk
        subst hk
        obtain ⟨n, h1, _⟩ := DataW.trod_string hu hx
        exact ⟨by rw [show [1].length = 1 from rfl, take_one_of h1]; rfl, by simp⟩
      case struct fs =>
        simp only at hk
        split at hk
        · simp at hk
        · cases hf : kindsOfFields P d fs.toList 0 with
          | none => rw [hf] at hk; simp at hk
          | some ks' =>
            rw [hf] at hk
            cases hi : P.info? t with
            | none => rw [hi] at hk; simp at hk
            | some i =>
              rw [hi] at hk
              simp only at hk
              split at hk
              · rename_i hs
                simp only [Option.some.injEq] at hk
                subst hk
                have hs := Nat.eq_of_beq_eq_true hs
                obtain ⟨xs, n, _, _, hlen, hxl, hall⟩ := DataW.trod_struct hu hx
                have hc : P.cellsOf t = ks'.length := by simp [Program.cellsOf, hi, hs]
                have := fits_fields d fs.toList 0 ks' hf n (l.take m) (fun f hf' => by
                  obtain ⟨j, hj, rfl⟩ := List.getElem_of_mem hf'
                  have hj' : j < fs.size := by simpa using hj
                  have h2 := hall j fs[j] (Array.getElem?_eq_getElem hj')
                  rw [List.getElem?_eq_getElem (by omega)] at h2
                  exact ⟨_, _, by simpa using h2⟩)
                rw [hc] at hlen
                refine ⟨?_, fun _ => hlen⟩
                rw [List.drop_zero, ← hlen, List.take_length] at this
                have e : l.take ks'.length = l.take m := by
                  rw [List.length_take] at hlen
                  rw [List.take_eq_take_iff]; omega
                rw [e]; exact this
              · simp at hk
theorem fits_fields : ∀ (d : Nat) (fs : List Field) (off : Nat) (ks : List Nat), kindsOfFields P d fs off = some ks → ∀ (n : Nat) (cs : List Value), (∀ f ∈ fs, ∃ m x, DataW.trod enc P w base spare held n f.type ((cs.drop f.offset).take m) = some x) → fitsL ks ((cs.drop off).take ks.length) = true
  | _, [], off, ks, hk, n, cs, _ => by
    unfold kindsOfFields at hk
    simp only [Option.some.injEq] at hk
    subst hk; rfl
  | 0, _ :: _, _, _, hk, _, _, _ => by simp [kindsOfFields] at hk
  | d + 1, f :: fs, off, ks, hk, n, cs, hall => by
    unfold kindsOfFields at hk
    split at hk
    · rename_i hn
      cases h1 : kindsOf P d f.type with
      | none => rw [h1] at hk; simp at hk
      | some k1 =>
        rw [h1] at hk
        simp only at hk
        cases h2 : kindsOfFields P d fs (off + k1.length) with
        | none => rw [h2] at hk; simp at hk
        | some k2 =>
          rw [h2] at hk
          simp only [Option.some.injEq] at hk
          subst hk
          obtain ⟨m, x, hx⟩ := hall f (by simp)
          rw [hn.2] at hx
          have a1 := (fits_trod d f.type k1 h1 n _ m x hx).1
          have a2 := fits_fields d fs (off + k1.length) k2 h2 n cs (fun g hg => hall g (by simp [hg]))
          rw [← List.drop_drop] at a2
          exact fitsL_join a1 a2
    · simp at hk
end
theorem open_sl {α : Type} [Inhabited α] {T : Ty α} (hT : T.Ok P) {t : TypeId} {b0 : Nat} {W : World} {v : Value} {dd : DataW H} {pp : List MemPlace} (ht : P.underlying t = some (.slice T.id)) (ks : List Nat) (hk : kindsOf P 20 T.id = some ks) (hc : P.cellsOf T.id = T.size) (hks : ks.length = T.size)
    (hdec : ∀ cs, fitsL ks cs = true → ∃ x, T.enc x = cs) (hv : Value.okWide P W .any b0 t v) (h : DataW.Trod enc P W 0 (fun _ => true) true t v dd pp) : ∃ L, Sl W.heap T v L := by
  obtain ⟨a0, len0, cap0, rfl⟩ := okWide_slice ht hv
  obtain ⟨fuel, hf⟩ := h
  have hcs : (Value.slice a0 len0 cap0).cells.toList = [.slice a0 len0 cap0] := rfl
  rw [hcs] at hf
  rcases Deep.open_slice ht hf with ⟨h0, _⟩ | ⟨a, len, cap, m, n, D, Pl, h0, _, hl, hm, hmm, _, hx⟩
  · rw [List.cons.injEq] at h0
    exact ⟨[], .inl ⟨⟨none, h0.1⟩, rfl⟩⟩
  · rw [List.cons.injEq] at h0
    obtain ⟨h0, _⟩ := h0
    injection h0 with e1 e2 e3
    subst e1 e2 e3
    simp only [Value.okWide, ht, Cell.okWide, Cell.ok] at hv
    obtain ⟨_, _, _, hsp, row, cells, hsh, _⟩ := hv
    obtain ⟨g, off, spot⟩ := a
    simp only at hsp
    subst hsp
    simp only [if_true] at hmm
    subst hmm
    unfold World.shape? at hsh
    cases hg : W.heap[g]? with
    | none => rw [hg] at hsh; simp at hsh
    | some ob =>
      rw [hg] at hsh
      cases ob <;> simp at hsh
      rename_i arr e fr
      rw [hc] at hx
      obtain ⟨X, hX⟩ := Deep.choose_lt (α := α) (p := fun i x => ∀ j u, (T.enc x)[j]? = some u → arr[off + i * T.size + j]? = some u) (fun i hi => by
        obtain ⟨cs', h1, h2⟩ := hx i hi
        obtain ⟨_, hlen, hcell⟩ := World.cells?_some h1
        rw [← List.take_length (l := cs')] at h2
        have hfit := (fits_trod 20 T.id ks hk n cs' cs'.length _ h2).1
        rw [hks, ← hlen, List.take_length] at hfit
        obtain ⟨x, hx'⟩ := hdec cs' hfit
        refine ⟨x, fun j u hj => ?_⟩
        rw [hx'] at hj
        have hjl : j < T.size := by rw [← hlen]; exact (List.getElem?_eq_some_iff.1 hj).1
        have := hcell j hjl
        rw [Mem.addr_add, Mem.addr_add, cell_of_row W g _ arr e fr hg, hj] at this
        exact this)
      have hpos := hT.pos
      have hget : ∀ i j, i < m → j < T.size → ∃ u, (T.enc (X i))[j]? = some u ∧ arr[off + i * T.size + j]? = some u := fun i j hi hj => by
        have : j < (T.enc (X i)).length := by rw [hT.len]; exact hj
        exact ⟨_, List.getElem?_eq_getElem this, hX i hi j _ (List.getElem?_eq_getElem this)⟩
      refine ⟨(List.range len0).map X, .inr ⟨g, off, m, arr, e, fr, by simp, hg, by simpa using hl, hm, ?_, ?_⟩⟩
      · intro hcp
        obtain ⟨u, _, hu⟩ := hget (m - 1) (T.size - 1) (by omega) (by omega)
        have hlt := (Array.getElem?_eq_some_iff.1 hu).1
        have : m * T.size = (m - 1) * T.size + T.size := by rw [Nat.sub_mul]; have : T.size ≤ m * T.size := Nat.le_mul_of_pos_left _ hcp; omega
        omega
      · apply List.ext_getElem?
        intro q
        have hfl := hT.flat_len ((List.range len0).map X)
        simp only [List.length_map, List.length_range] at hfl ⊢
        by_cases hq : q < len0 * T.size
        · have hi : q / T.size < len0 := Nat.div_lt_of_lt_mul (by rw [Nat.mul_comm]; exact hq)
          have hj : q % T.size < T.size := Nat.mod_lt _ hpos
          have e1 : q = q / T.size * T.size + q % T.size := by rw [Nat.mul_comm]; exact (Nat.div_add_mod _ _).symm
          obtain ⟨u, h1, h2⟩ := hget (q / T.size) (q % T.size) (by omega) hj
          have hL : ((List.range len0).map X)[q / T.size]? = some (X (q / T.size)) := by simp [hi]
          have h3 := hT.flat_get hL hj
          rw [← e1, h1] at h3
          rw [h3, List.getElem?_take, if_pos hq, List.getElem?_drop, Array.getElem?_toList]
          rw [← h2]
          congr 1
          omega
        · rw [List.getElem?_eq_none (by simp; omega), List.getElem?_eq_none (by rw [hfl]; omega)]
end
end Go.J
end
section
set_option linter.unusedSimpArgs false
set_option linter.unusedVariables false
namespace Go.S
open Go.Hp Go.J
open Go.Mem (Ty KTy blk aggDesc)
def iT (e : TypeId) : Ty Int := ⟨e, 1, 8, false, fun n => .int .i64 n, 0⟩
section
variable {P : Program}
theorem iT_ok {e : TypeId} {i : TypeInfo} (hd : P.underlying e = some (.int .i64)) (hi : P.info? e = some i) (hs : i.size = 1) (hb : i.bytes = 8) (hz : i.zero = some (.int .i64 0)) : (iT e).Ok P :=
  ⟨Nat.one_pos, fun _ => rfl, fun x u hu => by simp [Ty.enc, iT, Value.cells] at hu; subst hu; rfl, fun _ => rfl, ⟨_, hd, rfl⟩, fun _ => rfl, ⟨i, hi, hs, hb, hz⟩⟩
theorem flat_int {e : TypeId} (L : List Int) : (iT e).flat L = L.map fun n => Value.int .i64 n := by
  induction L with
  | nil => rfl
  | cons a r ih => rw [show a :: r = [a] ++ r from rfl, Ty.flat_append, ih]; rfl
def bT (e : TypeId) : Ty Bool := ⟨e, 1, 1, false, fun b => .bool b, false⟩
theorem bT_ok {e : TypeId} {i : TypeInfo} (hd : P.underlying e = some .bool) (hi : P.info? e = some i) (hs : i.size = 1) (hb : i.bytes = 1) (hz : i.zero = some (.bool false)) : (bT e).Ok P :=
  ⟨Nat.one_pos, fun _ => rfl, fun x u hu => by simp [Ty.enc, bT, Value.cells] at hu; subst hu; rfl, fun _ => rfl, ⟨_, hd, rfl⟩, fun _ => rfl, ⟨i, hi, hs, hb, hz⟩⟩
end
end Go.S
end
section
set_option linter.unusedSimpArgs false
set_option linter.unusedVariables false
namespace Go.Mem
section
variable {κ β : Type} [DecidableEq κ] {P : Program}
theorem findAsking_spec {K : KTy κ} (hs : ∀ k k' w, (Op.equal K.id (K.val k) (K.val k')).run P w = .ok (decide (k = k')) w) (k : κ) (w : World) : ∀ (es : List MapEntry) (m : List (κ × β)) (n : Nat), es.map (·.key) = m.map (K.val ·.1) →
    (Instr.findAsking K.id (K.val k) es n).run P w = .ok ((apos m k).bind fun i => (es[i]?).map fun e => (i + n, e.val)) w
  | [], m, n, h => by
    cases m with
    | nil => rfl
    | cons p r => simp at h
  | e :: es, m, n, h => by
    cases m with
    | nil => simp at h
    | cons p r =>
      simp only [List.map_cons, List.cons.injEq] at h
      unfold Instr.findAsking
      rw [Sem.run_bind, h.1, hs, Result.andThen_ok]
      by_cases hp : k = p.1
      · simp [hp, apos, Sem.run_pure]
      · have ih := findAsking_spec hs k w es r (n + 1) h.2
        have hp' : ¬ p.1 = k := fun e => hp e.symm
        simp only [hp, decide_false, ih, apos, hp', if_false, Bool.false_eq_true]
        cases apos r k with
        | none => rfl
        | some i => simp [Nat.add_assoc, Nat.add_comm 1 n]
theorem structK_ok {K : KTy κ} {fs : Array Field} (h : P.underlying K.id = some (.struct fs)) (hagg : ∀ k, ∃ cs, K.val k = .agg cs) (hc : ∀ (b : Bool) (k : κ) (w : World), (Instr.checkKey b 10000 K.id (K.val k)).run P w = .ok () w) (hb : ∀ k, Instr.sameBits 10000 (K.val k) (K.val k) = true)
    (hs : ∀ k k' w, (Op.equal K.id (K.val k) (K.val k')).run P w = .ok (decide (k = k')) w) : KTy.Ok (β := β) K P := by
  refine ⟨hc, hb, fun k es m he w => ?_⟩
  unfold Instr.findKey
  rw [Sem.run_bind, run_underlying h w, Result.andThen_ok]
  cases es with
  | nil =>
    cases m with
    | nil => rfl
    | cons p r => simp at he
  | cons e es =>
    cases m with
    | nil => simp at he
    | cons p r =>
      have h1 : Instr.findNow (.struct fs) (K.val k) (e :: es) 0 = none := by
        unfold Instr.findNow
        obtain ⟨cs, e1⟩ := hagg k
        rw [e1]; rfl
      rw [h1]
      have := findAsking_spec hs k w (e :: es) (p :: r) 0 he
      simpa using this
theorem equal_of_bin {t : TypeId} {a b : Array Value} {c : Bool} {w : World} (h : (binOp .eql t (.agg a) (.agg b)).run P w = .ok (.bool c) w) : (Op.equal t (.agg a) (.agg b)).run P w = .ok c w := by
  have h1 : binOp .eql t (.agg a) (.agg b) = (do pure (.bool (← Op.equal t (.agg a) (.agg b)))) := rfl
  rw [h1, Sem.run_bind] at h
  cases hr : (Op.equal t (.agg a) (.agg b)).run P w with
  | ok x w' => rw [hr, Result.andThen_ok, Sem.run_pure] at h; injection h with e1 e2; injection e1 with e1; subst e1; subst e2; rfl
  | _ => rw [hr] at h; cases h
end
end Go.Mem
end
section
set_option linter.unusedSimpArgs false
set_option linter.unusedVariables false
namespace Go.S
open Go.Hp Go.J
section
variable {P : Program} {w0 : World} {Q : Exit → Act → World → Prop} {n : Nat} {E : Env} {Z : Zone} {As : List Asr} {l : List Oper} {Ks : List Asr} {fuel : Nat} {listed : Array Bool}
theorem h_join {ι : Type} (fuel2 : Nat) (listed2 : Array Bool) (Ei : ι → Env) (Ai : ι → List Asr) (hj : ∀ i, SH P w0 l Q n Z Ks fuel2 listed2 (Ei i) (Ai i)) (h : (∀ i, SH P w0 l Q n Z Ks fuel2 listed2 (Ei i) (Ai i)) → SH P w0 l Q n Z Ks fuel listed E As) : SH P w0 l Q n Z Ks fuel listed E As := h hj
theorem h_use {ι : Type} {fuel2 : Nat} {listed2 : Array Bool} {Ei : ι → Env} {Ai : ι → List Asr} (hj : ∀ i, SH P w0 l Q n Z Ks fuel2 listed2 (Ei i) (Ai i)) (i : ι) (hA : ∀ H, Holds Z As H → Holds Z (Ai i) H) (hE : subB E (Ei i) := by exact sub_of rfl (by repeat first | exact trivial | refine ⟨⟨rfl, rfl⟩, ?_⟩)) (hf : fuel = fuel2 := by kernel_rfl) (hl : listed = listed2 := by kernel_rfl) : SH P w0 l Q n Z Ks fuel listed E As := fun H hH => by
  subst hf; subst hl
  exact fun a w hfit ha => hj i H (hA H hH) a w (hfit.of_sub hE) ha
theorem s_nt {ops : Array Oper} {y : Code} (h : SK P w0 y Q n E Z As) : SL P w0 ops (Exit.then (y.wp P Q) Q) n [] E Z As := s_nil (xs_then h)
theorem k_sr {id : Nat} {y : Code} (h : SL P w0 l.toArray (Exit.then (y.wp P Q) Q) n l E Z As) : SK P w0 (.seq (.region id l.toArray false) y) Q n E Z As := k_seq (k_reg h)
theorem k_st {y : Code} (h : SK P w0 y Q n E Z As) : SK P w0 .skip (Exit.then (y.wp P Q) Q) n E Z As := k_skip (xs_then h)
theorem s_nr {ops : Array Oper} {id : Nat} {y : Code} (h : SL P w0 l.toArray (Exit.then (y.wp P Q) Q) n l E Z As) : SL P w0 ops (Exit.then ((Code.seq (.region id l.toArray false) y).wp P Q) Q) n [] E Z As := s_nt (k_sr h)
theorem xcut {ι : Type} {p : ι → Prop} {Ei : ι → Env} {Ai : ι → List Asr} (i : ι) (hA : ∀ H, Holds Z As H → Holds Z (Ai i) H) (hp : p i := by exact trivial) (hE : subB E (Ei i) := by exact sub_of rfl (by repeat first | exact trivial | refine ⟨⟨rfl, rfl⟩, ?_⟩)) : SX w0 .normal (Exit.then (Cut w0 n p Ei Ai Z) Q) n E Z As := xs_cut i hp hE hA
end
end Go.S
end
section
set_option linter.unusedSimpArgs false
set_option linter.unusedVariables false
set_option maxRecDepth 100000
namespace Go.Proofs.YtmhpcebiamkciaaGreat
open Go.Hp Go.J Go.S
open Go.Mem (Ty KTy blk elemAt pre suf blk_pre blk_suf aget aset strK aggDesc)
theorem Tryz.mixed : Tryz.prog.follows .mixedOrders = true := by kernel_rfl
theorem ok_of {α : Type} (T : Ty α) (d : TypeDesc) (i : TypeInfo) (hpos : 0 < T.size) (hlen : ∀ x, (T.enc x).length = T.size) (hone : ∀ x, ∀ u ∈ T.enc x, u.oneCell' = true) (hval : ∀ x, T.val x = if T.agg then .agg (T.enc x).toArray else (T.enc x).headD undef)
    (hd : Tryz.prog.underlying T.id = some d) (ha : aggDesc d = T.agg) (h1 : T.agg = false → T.size = 1) (hi : Tryz.prog.info? T.id = some i) (hs : i.size = T.size) (hb : i.bytes = T.bytes) (hz : i.zero = some (T.val T.zero)) : T.Ok Tryz.prog :=
  ⟨hpos, hlen, hone, hval, ⟨d, hd, ha⟩, h1, ⟨i, hi, hs, hb, hz⟩⟩
theorem fit_int {v : Value} (h : fitsK 0 v = true) : ∃ n, v = .int .i64 n := by
  cases v <;> simp [fitsK] at h
  rename_i k n
  cases k <;> simp [fitsK] at h
  exact ⟨n, rfl⟩
theorem fit_str {v : Value} (h : fitsK 1 v = true) : ∃ n, v = .string n := by
  cases v <;> simp [fitsK] at h
  exact ⟨_, rfl⟩
abbrev Vl.v (x : Vl) : Value := .agg #[.int .i64 x.kind, .int .i64 x.p, .int .i64 x.q, .string x.str, .int .i64 x.ref]
abbrev vc (x : Vl) : Array Value := #[.int .i64 x.kind, .int .i64 x.p, .int .i64 x.q, .string x.str, .int .i64 x.ref]
abbrev zc : Array Value := #[.int .i64 0, .int .i64 0, .int .i64 0, .string ByteArray.empty, .int .i64 0]
abbrev iw (n : Int) : Value := .int .i64 n
abbrev sw (s : ByteArray) : Value := .string s
abbrev eb : ByteArray := ByteArray.empty
def VlT : Ty Vl := ⟨71, 5, 48, true, Vl.v, ⟨0, 0, 0, ByteArray.empty, 0⟩⟩
theorem VlT_ok : VlT.Ok Tryz.prog := ok_of VlT _ Tryz.t71 (by decide) (fun _ => rfl) (fun x u hu => by simp [Ty.enc, VlT, Value.cells] at hu; rcases hu with rfl | rfl | rfl | rfl | rfl <;> rfl) (fun _ => rfl) Tryz.underlying71 rfl (fun h => by cases h) (by kernel_rfl) (by kernel_rfl) (by kernel_rfl) (by kernel_rfl)
theorem eqVlT (x y : Vl) (w : World) : (binOp .eql 71 x.v y.v).run Tryz.prog w = .ok (.bool (decide (x = y))) w ∧ (binOp .neq 71 x.v y.v).run Tryz.prog w = .ok (.bool (!decide (x = y))) w := by
  have h := J.run_eqS (P := Tryz.prog) (t := 71) [0, 0, 0, 1, 0] (by kernel_rfl) (by kernel_rfl) #[.int .i64 x.kind, .int .i64 x.p, .int .i64 x.q, .string x.str, .int .i64 x.ref] #[.int .i64 y.kind, .int .i64 y.p, .int .i64 y.q, .string y.str, .int .i64 y.ref] rfl rfl w
  have e : J.cellsEq [.int .i64 x.kind, .int .i64 x.p, .int .i64 x.q, .string x.str, .int .i64 x.ref] [.int .i64 y.kind, .int .i64 y.p, .int .i64 y.q, .string y.str, .int .i64 y.ref] = decide (x = y) := by
    cases x; cases y; rw [Bool.eq_iff_iff]; simp [J.cellsEq, J.cellEq]
  rw [e] at h
  exact h
abbrev iTy : Ty Int := iT 3
theorem iTy_ok : iTy.Ok Tryz.prog := iT_ok (i := Tryz.t3) Tryz.underlying3 (by kernel_rfl) (by kernel_rfl) (by kernel_rfl) (by kernel_rfl)
abbrev bTy : Ty Bool := bT 4
theorem bTy_ok : bTy.Ok Tryz.prog := bT_ok (i := Tryz.t4) Tryz.underlying4 (by kernel_rfl) (by kernel_rfl) (by kernel_rfl) (by kernel_rfl)
abbrev Slt.v (x : Slt) : Value := .agg #[.int .i64 x.key.kind, .int .i64 x.key.p, .int .i64 x.key.q, .string x.key.str, .int .i64 x.key.ref, .int .i64 x.val.kind, .int .i64 x.val.p, .int .i64 x.val.q, .string x.val.str, .int .i64 x.val.ref, .bool x.gone]
def SltT : Ty Slt := ⟨261, 11, 104, true, Slt.v, ⟨zVl, zVl, false⟩⟩
theorem SltT_ok : SltT.Ok Tryz.prog := ok_of SltT _ Tryz.t261 (by decide) (fun _ => rfl) (fun x u hu => by simp [Ty.enc, SltT, Value.cells] at hu; rcases hu with rfl | rfl | rfl | rfl | rfl | rfl | rfl | rfl | rfl | rfl | rfl <;> rfl) (fun _ => rfl) Tryz.underlying261 rfl (fun h => by cases h) (by kernel_rfl) (by kernel_rfl) (by kernel_rfl) (by kernel_rfl)
def RSltT : Ty Slt := ⟨264, 11, 104, true, Slt.v, ⟨zVl, zVl, false⟩⟩
theorem RSltT_ok : RSltT.Ok Tryz.prog := ok_of RSltT _ Tryz.t264 (by decide) (fun _ => rfl) (fun x u hu => by simp [Ty.enc, RSltT, Value.cells] at hu; rcases hu with rfl | rfl | rfl | rfl | rfl | rfl | rfl | rfl | rfl | rfl | rfl <;> rfl) (fun _ => rfl) Tryz.underlying264 rfl (fun h => by cases h) (by kernel_rfl) (by kernel_rfl) (by kernel_rfl) (by kernel_rfl)
def vK : KTy Vl := ⟨71, Vl.v⟩
theorem vK_ok {β : Type} : KTy.Ok (β := β) vK Tryz.prog := by
  refine Go.Mem.structK_ok (K := vK) Tryz.underlying71 (fun k => ⟨_, rfl⟩) (fun b k w => by kernel_rfl) (fun k => ?_) (fun k k' w => Go.Mem.equal_of_bin (eqVlT k k' w).1)
  show Instr.sameBits 10000 (Vl.v k) (Vl.v k) = true
  unfold Instr.sameBits
  simp [Instr.sameBits, Go.Mem.bytes_beq]
abbrev nV (n : Nat) : Value := .int .i64 n
theorem intOk {β : Type} : KTy.Ok (β := β) (Go.Mem.intK 3) Tryz.prog := Go.Mem.intK_ok Tryz.underlying3
end Go.Proofs.YtmhpcebiamkciaaGreat
end
section
set_option linter.unusedSimpArgs false
set_option linter.unusedVariables false
set_option maxRecDepth 100000
set_option maxHeartbeats 2000000
namespace Go.Proofs.YtmhpcebiamkciaaGreat
open Go.Hp Go.J Go.S
open Go.Mem (Ty KTy blk elemAt pre suf blk_pre blk_suf aget aset strK aggDesc)
open Go.Mem (adel apos aget_aset aget_adel)
theorem gcd_s {Z : Zone} (x y : Nat) : SF Tryz.prog 232 #[iw x, iw y] Z [] fun v Bs => v = iw (Nat.gcd x y) ∧ Bs = [] := by
  refine sf_enter Tryz.func232 12 [(0, iw (x : Int)), (1, iw (y : Int))] (fun w0 => ?_)
  refine k_seq <| k_reg ?_
  refine s_lt (t_pure (iw 0)) ?_
  refine s_nil <| xs_then <| k_seq <| k_block ?_
  refine k_loop (ι := Nat × Nat) (fun (a, b) => Nat.gcd a b = Nat.gcd x y) (fun (a, b) => [(0, iw (a : Int)), (1, iw (b : Int)), (4, iw 0)]) (fun (a, b) => []) (fun (a, b) => b) (x, y) rfl (sub_of rfl ⟨⟨rfl, rfl⟩, ⟨⟨rfl, rfl⟩, ⟨⟨rfl, rfl⟩, trivial⟩⟩⟩) (fun _ h => h.re [] []) ?_
  rintro ⟨a, b⟩ hi1
  replace hi1 : Nat.gcd a b = Nat.gcd x y := hi1
  show SK _ _ _ _ _ [(0, iw (a : Int)), (1, iw (b : Int)), (4, iw 0)] _ []
  refine k_seq <| k_seq <| k_reg ?_
  refine s_lt (t_pure (iw (b : Int))) ?_
  refine s_lt t_cmp ?_
  refine s_nil <| xs_then <| k_cond (decide ((b : Int) ≠ 0)) (fun c2 => ?_) (fun c2 => ?_)
  ·
    have p3 := of_decide_eq_true c2
    refine k_skip ?_
    refine xs_then <| k_block ?_
    refine k_draw ?_
    refine s_lt (t_pure (iw (b : Int))) ?_
    refine s_lt (t_pure (iw (a : Int))) ?_
    refine s_lt (t_pure (iw (b : Int))) ?_
    refine s_lt (Lt.to (v' := iw ((a % b : Nat) : Int)) (t_rem (a : Int) (b : Int) (by omega)) rfl) ?_
    refine s_lt (t_pure (iw (b : Int))) ?_
    refine s_lt (t_pure (iw ((a % b : Nat) : Int))) ?_
    refine s_nil <| x_dynS (fun _ h => by kernel_rfl) ?_
    refine xs_block ?_
    exact xs_round (b, a % b) (by exact Nat.mod_lt _ (by omega)) (by show Nat.gcd b (a % b) = _; rw [gcd_step]; exact hi1) (sub_of rfl ⟨⟨rfl, rfl⟩, ⟨⟨rfl, rfl⟩, ⟨⟨rfl, rfl⟩, trivial⟩⟩⟩) (fun _ h => h.re [] [])
  ·
    have p4 := Decidable.not_not.1 (of_decide_eq_false c2)
    refine k_exit ?_
    refine xs_exit ?_
    refine xs_exit ?_
    refine xs_here ?_
    refine xs_then <| k_seq <| k_reg ?_
    refine s_lt (t_pure (iw (a : Int))) ?_
    refine s_lt (t_pure (iw (a : Int))) ?_
    refine s_nil <| xs_then <| k_ret ?_
    obtain rfl : b = 0 := by omega
    refine xs_fin [iw (a : Int)] [] (SI.tmp 4 SI.nil) (fun _ h => h.re [] []) ⟨?_, rfl⟩
    rw [← hi1, Nat.gcd_zero_right]; rfl
theorem gcd_i {Z : Zone} (x y : Int) (hx : 0 ≤ x) (hy : 0 ≤ y) : SF Tryz.prog 232 #[iw x, iw y] Z [] fun v Bs => v = iw (Nat.gcd x.toNat y.toNat) ∧ Bs = [] := by
  have h := gcd_s (Z := Z) x.toNat y.toNat
  rw [show ((x.toNat : Nat) : Int) = x by omega, show ((y.toNat : Nat) : Int) = y by omega] at h
  exact h
theorem rgcd_s {Z : Zone} (x y : Nat) : SF Tryz.prog 237 #[iw x, iw y] Z [] fun v Bs => v = iw (Nat.gcd x y) ∧ Bs = [] := by
  refine sf_enter Tryz.func237 12 [(0, iw (x : Int)), (1, iw (y : Int))] (fun w0 => ?_)
  refine k_seq <| k_reg ?_
  refine s_lt (t_pure (iw 0)) ?_
  refine s_nil <| xs_then <| k_seq <| k_block ?_
  refine k_loop (ι := Nat × Nat) (fun (a, b) => Nat.gcd a b = Nat.gcd x y) (fun (a, b) => [(0, iw (a : Int)), (1, iw (b : Int)), (4, iw 0)]) (fun (a, b) => []) (fun (a, b) => b) (x, y) rfl (sub_of rfl ⟨⟨rfl, rfl⟩, ⟨⟨rfl, rfl⟩, ⟨⟨rfl, rfl⟩, trivial⟩⟩⟩) (fun _ h => h.re [] []) ?_
  rintro ⟨a, b⟩ hi1
  replace hi1 : Nat.gcd a b = Nat.gcd x y := hi1
  show SK _ _ _ _ _ [(0, iw (a : Int)), (1, iw (b : Int)), (4, iw 0)] _ []
  refine k_seq <| k_seq <| k_reg ?_
  refine s_lt (t_pure (iw (b : Int))) ?_
  refine s_lt t_cmp ?_
  refine s_nil <| xs_then <| k_cond (decide ((b : Int) ≠ 0)) (fun c2 => ?_) (fun c2 => ?_)
  ·
    have p3 := of_decide_eq_true c2
    refine k_skip ?_
    refine xs_then <| k_block ?_
    refine k_draw ?_
    refine s_lt (t_pure (iw (b : Int))) ?_
    refine s_lt (t_pure (iw (a : Int))) ?_
    refine s_lt (t_pure (iw (b : Int))) ?_
    refine s_lt (Lt.to (v' := iw ((a % b : Nat) : Int)) (t_rem (a : Int) (b : Int) (by omega)) rfl) ?_
    refine s_lt (t_pure (iw (b : Int))) ?_
    refine s_lt (t_pure (iw ((a % b : Nat) : Int))) ?_
    refine s_nil <| x_dynS (fun _ h => by kernel_rfl) ?_
    refine xs_block ?_
    exact xs_round (b, a % b) (by exact Nat.mod_lt _ (by omega)) (by show Nat.gcd b (a % b) = _; rw [gcd_step]; exact hi1) (sub_of rfl ⟨⟨rfl, rfl⟩, ⟨⟨rfl, rfl⟩, ⟨⟨rfl, rfl⟩, trivial⟩⟩⟩) (fun _ h => h.re [] [])
  ·
    have p4 := Decidable.not_not.1 (of_decide_eq_false c2)
    refine k_exit ?_
    refine xs_exit ?_
    refine xs_exit ?_
    refine xs_here ?_
    refine xs_then <| k_seq <| k_reg ?_
    refine s_lt (t_pure (iw (a : Int))) ?_
    refine s_lt (t_pure (iw (a : Int))) ?_
    refine s_nil <| xs_then <| k_ret ?_
    obtain rfl : b = 0 := by omega
    refine xs_fin [iw (a : Int)] [] (SI.tmp 4 SI.nil) (fun _ h => h.re [] []) ⟨?_, rfl⟩
    rw [← hi1, Nat.gcd_zero_right]; rfl
theorem rgcd_i {Z : Zone} (x y : Int) (hx : 0 ≤ x) (hy : 0 ≤ y) : SF Tryz.prog 237 #[iw x, iw y] Z [] fun v Bs => v = iw (Nat.gcd x.toNat y.toNat) ∧ Bs = [] := by
  have h := rgcd_s (Z := Z) x.toNat y.toNat
  rw [show ((x.toNat : Nat) : Int) = x by omega, show ((y.toNat : Nat) : Int) = y by omega] at h
  exact h
theorem abs_s {Z : Zone} (x : Int) (h1 : -2147483647 ≤ x) (h2 : x ≤ 2147483647) : SF Tryz.prog 238 #[iw x] Z [] fun v Bs => v = iw (if x < -x then -x else x) ∧ Bs = [] := by
  refine sf_enter Tryz.func238 8 [(0, iw x)] (fun w0 => ?_)
  refine k_seq <| k_reg ?_
  refine s_lt (t_pure (iw 0)) ?_
  refine s_nil <| xs_then <| k_seq <| k_seq <| k_reg ?_
  refine s_lt (t_pure (iw x)) ?_
  refine s_lt t_cmp ?_
  refine s_nil <| xs_then <| k_cond (decide (x < 0)) (fun c1 => ?_) (fun c1 => ?_)
  ·
    have p2 := of_decide_eq_true c1
    refine k_seq <| k_reg ?_
    refine s_lt (t_pure (iw x)) ?_
    refine s_lt (t_neg x (by omega)) ?_
    refine s_lt (t_pure (iw (-x))) ?_
    refine s_nil <| xs_then <| k_ret <| xs_ret <| xs_fin [iw (-x)] [] (SI.tmp 2 SI.nil) (fun _ h => h.re [] []) ⟨?_, rfl⟩
    exact congrArg (Value.int .i64) (by omega)
  ·
    have p3 := of_decide_eq_false c1
    refine k_skip ?_
    refine xs_then <| k_seq <| k_reg ?_
    refine s_lt (t_pure (iw x)) ?_
    refine s_lt (t_pure (iw x)) ?_
    refine s_nil <| xs_then <| k_ret <| xs_fin [iw x] [] (SI.tmp 2 SI.nil) (fun _ h => h.re [] []) ⟨?_, rfl⟩
    exact congrArg (Value.int .i64) (by omega)
theorem vnum_s {Z : Zone} (p q : Int) : SF Tryz.prog 191 #[.agg #[iw p, iw q]] Z [] fun v Bs => v = .bool (validN p q) ∧ Bs = [] := by
  refine sf_enter Tryz.func191 33 [(0, .agg #[iw p, iw q])] (fun w0 => ?_)
  refine k_seq <| k_reg ?_
  refine s_box #[iw p, iw q] (fun g1 => ?_)
  refine s_lt (t_pure (.bool false)) ?_
  refine s_nil <| xs_then <| k_cut (ι := Unit) (fun _ => True) (fun _ => [(2, .bool ((decide ((1 : Int) ≤ q)) && ((decide (q ≤ 2147483647)) && ((decide ((-2147483647) ≤ p)) && ((decide (p ≤ 2147483647)) && (decide (((Nat.gcd ((if p < (-p) then (-p) else p)).toNat (q).toNat : Nat) : Int) = 1)))))))]) (fun _ => [blkA g1 #[iw p, iw q] 69]) ?_ (fun _ _ => ?_)
  ·
    refine k_reg ?_
    refine s_lt (t_pure (.pointer (some ⟨g1, 1, none⟩))) ?_
    refine s_lt (t_load 0 (iw q)) ?_
    refine s_lt t_cmp ?_
    refine s_lt (t_pure (.bool (decide ((1 : Int) ≤ q)))) ?_
    refine s_fork 6 (decide ((1 : Int) ≤ q)) (fun c2 => ?_) (fun c2 => ?_)
    ·
      have p3 := of_decide_eq_true c2
      refine s_lt (t_pure (.pointer (some ⟨g1, 1, none⟩))) ?_
      refine s_lt (t_load 0 (iw q)) ?_
      refine s_lt t_cmp ?_
      refine s_lt (t_pure (.bool (decide (q ≤ 2147483647)))) ?_
      refine s_lt (t_pure (.bool (decide (q ≤ 2147483647)))) ?_
      refine s_fork 11 (decide (q ≤ 2147483647)) (fun c4 => ?_) (fun c4 => ?_)
      ·
        have p5 := of_decide_eq_true c4
        refine s_lt (t_pure (.pointer (some ⟨g1, 0, none⟩))) ?_
        refine s_lt (t_load 0 (iw p)) ?_
        refine s_lt t_cmp ?_
        refine s_lt (t_pure (.bool (decide ((-2147483647) ≤ p)))) ?_
        refine s_lt (t_pure (.bool (decide ((-2147483647) ≤ p)))) ?_
        refine s_fork 16 (decide ((-2147483647) ≤ p)) (fun c6 => ?_) (fun c6 => ?_)
        ·
          have p7 := of_decide_eq_true c6
          refine s_lt (t_pure (.pointer (some ⟨g1, 0, none⟩))) ?_
          refine s_lt (t_load 0 (iw p)) ?_
          refine s_lt t_cmp ?_
          refine s_lt (t_pure (.bool (decide (p ≤ 2147483647)))) ?_
          refine s_lt (t_pure (.bool (decide (p ≤ 2147483647)))) ?_
          refine s_fork 21 (decide (p ≤ 2147483647)) (fun c8 => ?_) (fun c8 => ?_)
          ·
            have p9 := of_decide_eq_true c8
            refine s_lt (t_pure (.pointer (some ⟨g1, 0, none⟩))) ?_
            refine s_lt (t_load 0 (iw p)) ?_
            refine s_lt (t_pure (.pointer (some ⟨g1, 0, none⟩))) ?_
            refine s_lt (t_load 0 (iw p)) ?_
            refine s_lt (t_neg p (by omega)) ?_
            refine s_lt t_max ?_
            refine s_lt (t_pure (.pointer (some ⟨g1, 1, none⟩))) ?_
            refine s_lt (t_load 0 (iw q)) ?_
            refine s_vcall (fun _ h => gcd_i (if p < (-p) then (-p) else p) q (by omega) (by omega)) ?_
            rintro _ rfl
            refine s_lt t_cmp ?_
            refine s_lt (t_pure (.bool (decide (((Nat.gcd ((if p < (-p) then (-p) else p)).toNat (q).toNat : Nat) : Int) = 1)))) ?_
            refine s_lt (t_pure (.bool (decide (((Nat.gcd ((if p < (-p) then (-p) else p)).toNat (q).toNat : Nat) : Int) = 1)))) ?_
            refine s_nil ?_
            exact xs_cut () trivial (sub_of rfl ⟨⟨rfl, show Value.bool (decide (((Nat.gcd ((if p < (-p) then (-p) else p)).toNat (q).toNat : Nat) : Int) = 1)) = Value.bool ((decide ((1 : Int) ≤ q)) && ((decide (q ≤ 2147483647)) && ((decide ((-2147483647) ≤ p)) && ((decide (p ≤ 2147483647)) && (decide (((Nat.gcd ((if p < (-p) then (-p) else p)).toNat (q).toNat : Nat) : Int) = 1)))))) by first | (simp only [c2, c4, c6, c8, Bool.true_and, Bool.false_and, Bool.and_true, Bool.and_false, Bool.true_or, Bool.or_true, Bool.false_or, Bool.or_false, Bool.not_true, Bool.not_false]; done) | simp [c2, c4, c6, c8]⟩, trivial⟩) (fun _ h => h.re [0] [])
          ·
            have p10 := of_decide_eq_false c8
            refine s_skip ?_
            refine s_skip ?_
            refine s_skip ?_
            refine s_skip ?_
            refine s_skip ?_
            refine s_skip ?_
            refine s_skip ?_
            refine s_skip ?_
            refine s_skip ?_
            refine s_skip ?_
            refine s_lt (t_pure (.bool false)) ?_
            refine s_lt (t_pure (.bool false)) ?_
            refine s_nil ?_
            exact xs_cut () trivial (sub_of rfl ⟨⟨rfl, show Value.bool false = Value.bool ((decide ((1 : Int) ≤ q)) && ((decide (q ≤ 2147483647)) && ((decide ((-2147483647) ≤ p)) && ((decide (p ≤ 2147483647)) && (decide (((Nat.gcd ((if p < (-p) then (-p) else p)).toNat (q).toNat : Nat) : Int) = 1)))))) by first | (simp only [c2, c4, c6, c8, Bool.true_and, Bool.false_and, Bool.and_true, Bool.and_false, Bool.true_or, Bool.or_true, Bool.false_or, Bool.or_false, Bool.not_true, Bool.not_false]; done) | simp [c2, c4, c6, c8]⟩, trivial⟩) (fun _ h => h.re [0] [])
        ·
          have p11 := of_decide_eq_false c6
          refine s_skip ?_
          refine s_skip ?_
          refine s_skip ?_
          refine s_lt (t_pure (.bool false)) ?_
          refine s_lt (t_pure (.bool false)) ?_
          refine s_skip ?_
          refine s_skip ?_
          refine s_skip ?_
          refine s_skip ?_
          refine s_skip ?_
          refine s_skip ?_
          refine s_skip ?_
          refine s_skip ?_
          refine s_skip ?_
          refine s_skip ?_
          refine s_lt (t_pure (.bool false)) ?_
          refine s_lt (t_pure (.bool false)) ?_
          refine s_nil ?_
          exact xs_cut () trivial (sub_of rfl ⟨⟨rfl, show Value.bool false = Value.bool ((decide ((1 : Int) ≤ q)) && ((decide (q ≤ 2147483647)) && ((decide ((-2147483647) ≤ p)) && ((decide (p ≤ 2147483647)) && (decide (((Nat.gcd ((if p < (-p) then (-p) else p)).toNat (q).toNat : Nat) : Int) = 1)))))) by first | (simp only [c2, c4, c6, Bool.true_and, Bool.false_and, Bool.and_true, Bool.and_false, Bool.true_or, Bool.or_true, Bool.false_or, Bool.or_false, Bool.not_true, Bool.not_false]; done) | simp [c2, c4, c6]⟩, trivial⟩) (fun _ h => h.re [0] [])
      ·
        have p12 := of_decide_eq_false c4
        refine s_skip ?_
        refine s_skip ?_
        refine s_skip ?_
        refine s_lt (t_pure (.bool false)) ?_
        refine s_lt (t_pure (.bool false)) ?_
        refine s_skip ?_
        refine s_skip ?_
        refine s_skip ?_
        refine s_lt (t_pure (.bool false)) ?_
        refine s_lt (t_pure (.bool false)) ?_
        refine s_skip ?_
        refine s_skip ?_
        refine s_skip ?_
        refine s_skip ?_
        refine s_skip ?_
        refine s_skip ?_
        refine s_skip ?_
        refine s_skip ?_
        refine s_skip ?_
        refine s_skip ?_
        refine s_lt (t_pure (.bool false)) ?_
        refine s_lt (t_pure (.bool false)) ?_
        refine s_nil ?_
        exact xs_cut () trivial (sub_of rfl ⟨⟨rfl, show Value.bool false = Value.bool ((decide ((1 : Int) ≤ q)) && ((decide (q ≤ 2147483647)) && ((decide ((-2147483647) ≤ p)) && ((decide (p ≤ 2147483647)) && (decide (((Nat.gcd ((if p < (-p) then (-p) else p)).toNat (q).toNat : Nat) : Int) = 1)))))) by first | (simp only [c2, c4, Bool.true_and, Bool.false_and, Bool.and_true, Bool.and_false, Bool.true_or, Bool.or_true, Bool.false_or, Bool.or_false, Bool.not_true, Bool.not_false]; done) | simp [c2, c4]⟩, trivial⟩) (fun _ h => h.re [0] [])
    ·
      have p13 := of_decide_eq_false c2
      refine s_skip ?_
      refine s_skip ?_
      refine s_skip ?_
      refine s_lt (t_pure (.bool false)) ?_
      refine s_lt (t_pure (.bool false)) ?_
      refine s_skip ?_
      refine s_skip ?_
      refine s_skip ?_
      refine s_lt (t_pure (.bool false)) ?_
      refine s_lt (t_pure (.bool false)) ?_
      refine s_skip ?_
      refine s_skip ?_
      refine s_skip ?_
      refine s_lt (t_pure (.bool false)) ?_
      refine s_lt (t_pure (.bool false)) ?_
      refine s_skip ?_
      refine s_skip ?_
      refine s_skip ?_
      refine s_skip ?_
      refine s_skip ?_
      refine s_skip ?_
      refine s_skip ?_
      refine s_skip ?_
      refine s_skip ?_
      refine s_skip ?_
      refine s_lt (t_pure (.bool false)) ?_
      refine s_lt (t_pure (.bool false)) ?_
      refine s_nil ?_
      exact xs_cut () trivial (sub_of rfl ⟨⟨rfl, show Value.bool false = Value.bool ((decide ((1 : Int) ≤ q)) && ((decide (q ≤ 2147483647)) && ((decide ((-2147483647) ≤ p)) && ((decide (p ≤ 2147483647)) && (decide (((Nat.gcd ((if p < (-p) then (-p) else p)).toNat (q).toNat : Nat) : Int) = 1)))))) by first | (simp only [c2, Bool.true_and, Bool.false_and, Bool.and_true, Bool.and_false, Bool.true_or, Bool.or_true, Bool.false_or, Bool.or_false, Bool.not_true, Bool.not_false]; done) | simp [c2]⟩, trivial⟩) (fun _ h => h.re [0] [])
  ·
    refine k_ret <| xs_fin [.bool ((decide ((1 : Int) ≤ q)) && ((decide (q ≤ 2147483647)) && ((decide ((-2147483647) ≤ p)) && ((decide (p ≤ 2147483647)) && (decide (((Nat.gcd ((if p < (-p) then (-p) else p)).toNat (q).toNat : Nat) : Int) = 1))))))] [] (SI.tmp 2 SI.nil) (fun _ h => h.re [] [0]) ⟨?_, rfl⟩
    exact congrArg Value.bool (validN_eq p q)
theorem rvnum_s {Z : Zone} (p q : Int) : SF Tryz.prog 196 #[.agg #[iw p, iw q]] Z [] fun v Bs => v = .bool (validN p q) ∧ Bs = [] := by
  refine sf_enter Tryz.func196 30 [(0, .agg #[iw p, iw q])] (fun w0 => ?_)
  refine k_seq <| k_reg ?_
  refine s_box #[iw p, iw q] (fun g1 => ?_)
  refine s_lt (t_pure (.bool false)) ?_
  refine s_nil <| xs_then <| k_cut (ι := Unit) (fun _ => True) (fun _ => [(2, .bool ((decide ((1 : Int) ≤ q)) && ((decide (q ≤ 2147483647)) && ((decide (p ≤ 2147483647)) && ((decide ((-2147483647) ≤ p)) && (decide (((Nat.gcd ((if p < (-p) then (-p) else p)).toNat (q).toNat : Nat) : Int) = 1)))))))]) (fun _ => [blkA g1 #[iw p, iw q] 69]) ?_ (fun _ _ => ?_)
  ·
    refine k_held [blkA g1 #[iw p, iw q] 69] ?_
    refine h_lt 0 rfl (np_then np_finS) [0] (fun _ => (t_pure (.pointer (some ⟨g1, 1, none⟩)))) ?_
    refine h_lt 1 rfl (np_then np_finS) [0] (fun _ => (t_load 0 (iw q))) ?_
    refine h_lt 2 rfl (np_then np_finS) [0] (fun _ => t_cmp) ?_
    refine h_lt 3 rfl (np_then np_finS) [0] (fun _ => (t_pure (.bool (decide ((1 : Int) ≤ q))))) ?_
    refine h_forkS 6 (decide ((1 : Int) ≤ q)) (fun c2 => ?_) (fun c2 => ?_)
    ·
      have p3 := of_decide_eq_true c2
      refine h_lt 4 rfl (np_then np_finS) [0] (fun _ => (t_pure (.pointer (some ⟨g1, 1, none⟩)))) ?_
      refine h_lt 5 rfl (np_then np_finS) [0] (fun _ => (t_load 0 (iw q))) ?_
      refine h_lt 6 rfl (np_then np_finS) [0] (fun _ => t_cmp) ?_
      refine h_lt 7 rfl (np_then np_finS) [0] (fun _ => (t_pure (.bool (decide (q ≤ 2147483647))))) ?_
      refine h_lt 8 rfl (np_then np_finS) [0] (fun _ => (t_pure (.bool (decide (q ≤ 2147483647))))) ?_
      refine h_forkS 11 (decide (q ≤ 2147483647)) (fun c4 => ?_) (fun c4 => ?_)
      ·
        have p5 := of_decide_eq_true c4
        refine h_lt 9 rfl (np_then np_finS) [0] (fun _ => (t_pure (.pointer (some ⟨g1, 0, none⟩)))) ?_
        refine h_lt 10 rfl (np_then np_finS) [0] (fun _ => (t_load 0 (iw p))) ?_
        refine h_lt 11 rfl (np_then np_finS) [0] (fun _ => t_cmp) ?_
        refine h_lt 12 rfl (np_then np_finS) [0] (fun _ => (t_pure (.bool (decide (p ≤ 2147483647))))) ?_
        refine h_lt 13 rfl (np_then np_finS) [0] (fun _ => (t_pure (.bool (decide (p ≤ 2147483647))))) ?_
        refine h_forkS 16 (decide (p ≤ 2147483647)) (fun c6 => ?_) (fun c6 => ?_)
        ·
          have p7 := of_decide_eq_true c6
          refine h_lt 14 rfl (np_then np_finS) [0] (fun _ => (t_pure (.pointer (some ⟨g1, 0, none⟩)))) ?_
          refine h_lt 15 rfl (np_then np_finS) [0] (fun _ => (t_load 0 (iw p))) ?_
          refine h_lt 16 rfl (np_then np_finS) [0] (fun _ => t_cmp) ?_
          refine h_lt 17 rfl (np_then np_finS) [0] (fun _ => (t_pure (.bool (decide ((-2147483647) ≤ p))))) ?_
          refine h_lt 18 rfl (np_then np_finS) [0] (fun _ => (t_pure (.bool (decide ((-2147483647) ≤ p))))) ?_
          refine h_forkS 21 (decide ((-2147483647) ≤ p)) (fun c8 => ?_) (fun c8 => ?_)
          ·
            have p9 := of_decide_eq_true c8
            refine h_lt 19 rfl (np_then np_finS) [0] (fun _ => (t_pure (.pointer (some ⟨g1, 0, none⟩)))) ?_
            refine h_lt 20 rfl (np_then np_finS) [0] (fun _ => (t_load 0 (iw p))) ?_
            refine h_lt 22 rfl (np_then np_finS) [0] (fun _ => (t_pure (.pointer (some ⟨g1, 1, none⟩)))) ?_
            refine h_lt 23 rfl (np_then np_finS) [0] (fun _ => (t_load 0 (iw q))) ?_
            refine h_stepS 21 ?_
            refine s_vcall (fun _ h => abs_s p (by omega) (by omega)) ?_
            rintro _ rfl
            refine s_nil (xs_held [0] ?_)
            refine h_stepS 24 ?_
            refine s_vcall (fun _ h => rgcd_i (if p < (-p) then (-p) else p) q (by omega) (by omega)) ?_
            rintro _ rfl
            refine s_nil (xs_held [0] ?_)
            refine h_lt 25 rfl (np_then np_finS) [0] (fun _ => t_cmp) ?_
            refine h_lt 26 rfl (np_then np_finS) [0] (fun _ => (t_pure (.bool (decide (((Nat.gcd ((if p < (-p) then (-p) else p)).toNat (q).toNat : Nat) : Int) = 1))))) ?_
            refine h_lt 27 rfl (np_then np_finS) [0] (fun _ => (t_pure (.bool (decide (((Nat.gcd ((if p < (-p) then (-p) else p)).toNat (q).toNat : Nat) : Int) = 1))))) ?_
            refine h_doneS ?_
            exact xs_cut () trivial (sub_of rfl ⟨⟨rfl, show Value.bool (decide (((Nat.gcd ((if p < (-p) then (-p) else p)).toNat (q).toNat : Nat) : Int) = 1)) = Value.bool ((decide ((1 : Int) ≤ q)) && ((decide (q ≤ 2147483647)) && ((decide (p ≤ 2147483647)) && ((decide ((-2147483647) ≤ p)) && (decide (((Nat.gcd ((if p < (-p) then (-p) else p)).toNat (q).toNat : Nat) : Int) = 1)))))) by first | (simp only [c2, c4, c6, c8, Bool.true_and, Bool.false_and, Bool.and_true, Bool.and_false, Bool.true_or, Bool.or_true, Bool.false_or, Bool.or_false, Bool.not_true, Bool.not_false]; done) | simp [c2, c4, c6, c8]⟩, trivial⟩) (fun _ h => h.re [0] [])
          ·
            have p10 := of_decide_eq_false c8
            refine h_skipS 19 (np_then np_finS) [0] ?_
            refine h_skipS 20 (np_then np_finS) [0] ?_
            refine h_skipS 22 (np_then np_finS) [0] ?_
            refine h_skipS 23 (np_then np_finS) [0] ?_
            refine h_stepS 21 ?_
            refine s_skip ?_
            refine s_nil (xs_held [0] ?_)
            refine h_stepS 24 ?_
            refine s_skip ?_
            refine s_nil (xs_held [0] ?_)
            refine h_skipS 25 (np_then np_finS) [0] ?_
            refine h_lt 26 rfl (np_then np_finS) [0] (fun _ => (t_pure (.bool false))) ?_
            refine h_lt 27 rfl (np_then np_finS) [0] (fun _ => (t_pure (.bool false))) ?_
            refine h_doneS ?_
            exact xs_cut () trivial (sub_of rfl ⟨⟨rfl, show Value.bool false = Value.bool ((decide ((1 : Int) ≤ q)) && ((decide (q ≤ 2147483647)) && ((decide (p ≤ 2147483647)) && ((decide ((-2147483647) ≤ p)) && (decide (((Nat.gcd ((if p < (-p) then (-p) else p)).toNat (q).toNat : Nat) : Int) = 1)))))) by first | (simp only [c2, c4, c6, c8, Bool.true_and, Bool.false_and, Bool.and_true, Bool.and_false, Bool.true_or, Bool.or_true, Bool.false_or, Bool.or_false, Bool.not_true, Bool.not_false]; done) | simp [c2, c4, c6, c8]⟩, trivial⟩) (fun _ h => h.re [0] [])
        ·
          have p11 := of_decide_eq_false c6
          refine h_skipS 14 (np_then np_finS) [0] ?_
          refine h_skipS 15 (np_then np_finS) [0] ?_
          refine h_skipS 16 (np_then np_finS) [0] ?_
          refine h_lt 17 rfl (np_then np_finS) [0] (fun _ => (t_pure (.bool false))) ?_
          refine h_lt 18 rfl (np_then np_finS) [0] (fun _ => (t_pure (.bool false))) ?_
          refine h_skipS 19 (np_then np_finS) [0] ?_
          refine h_skipS 20 (np_then np_finS) [0] ?_
          refine h_skipS 22 (np_then np_finS) [0] ?_
          refine h_skipS 23 (np_then np_finS) [0] ?_
          refine h_stepS 21 ?_
          refine s_skip ?_
          refine s_nil (xs_held [0] ?_)
          refine h_stepS 24 ?_
          refine s_skip ?_
          refine s_nil (xs_held [0] ?_)
          refine h_skipS 25 (np_then np_finS) [0] ?_
          refine h_lt 26 rfl (np_then np_finS) [0] (fun _ => (t_pure (.bool false))) ?_
          refine h_lt 27 rfl (np_then np_finS) [0] (fun _ => (t_pure (.bool false))) ?_
          refine h_doneS ?_
          exact xs_cut () trivial (sub_of rfl ⟨⟨rfl, show Value.bool false = Value.bool ((decide ((1 : Int) ≤ q)) && ((decide (q ≤ 2147483647)) && ((decide (p ≤ 2147483647)) && ((decide ((-2147483647) ≤ p)) && (decide (((Nat.gcd ((if p < (-p) then (-p) else p)).toNat (q).toNat : Nat) : Int) = 1)))))) by first | (simp only [c2, c4, c6, Bool.true_and, Bool.false_and, Bool.and_true, Bool.and_false, Bool.true_or, Bool.or_true, Bool.false_or, Bool.or_false, Bool.not_true, Bool.not_false]; done) | simp [c2, c4, c6]⟩, trivial⟩) (fun _ h => h.re [0] [])
      ·
        have p12 := of_decide_eq_false c4
        refine h_skipS 9 (np_then np_finS) [0] ?_
        refine h_skipS 10 (np_then np_finS) [0] ?_
        refine h_skipS 11 (np_then np_finS) [0] ?_
        refine h_lt 12 rfl (np_then np_finS) [0] (fun _ => (t_pure (.bool false))) ?_
        refine h_lt 13 rfl (np_then np_finS) [0] (fun _ => (t_pure (.bool false))) ?_
        refine h_skipS 14 (np_then np_finS) [0] ?_
        refine h_skipS 15 (np_then np_finS) [0] ?_
        refine h_skipS 16 (np_then np_finS) [0] ?_
        refine h_lt 17 rfl (np_then np_finS) [0] (fun _ => (t_pure (.bool false))) ?_
        refine h_lt 18 rfl (np_then np_finS) [0] (fun _ => (t_pure (.bool false))) ?_
        refine h_skipS 19 (np_then np_finS) [0] ?_
        refine h_skipS 20 (np_then np_finS) [0] ?_
        refine h_skipS 22 (np_then np_finS) [0] ?_
        refine h_skipS 23 (np_then np_finS) [0] ?_
        refine h_stepS 21 ?_
        refine s_skip ?_
        refine s_nil (xs_held [0] ?_)
        refine h_stepS 24 ?_
        refine s_skip ?_
        refine s_nil (xs_held [0] ?_)
        refine h_skipS 25 (np_then np_finS) [0] ?_
        refine h_lt 26 rfl (np_then np_finS) [0] (fun _ => (t_pure (.bool false))) ?_
        refine h_lt 27 rfl (np_then np_finS) [0] (fun _ => (t_pure (.bool false))) ?_
        refine h_doneS ?_
        exact xs_cut () trivial (sub_of rfl ⟨⟨rfl, show Value.bool false = Value.bool ((decide ((1 : Int) ≤ q)) && ((decide (q ≤ 2147483647)) && ((decide (p ≤ 2147483647)) && ((decide ((-2147483647) ≤ p)) && (decide (((Nat.gcd ((if p < (-p) then (-p) else p)).toNat (q).toNat : Nat) : Int) = 1)))))) by first | (simp only [c2, c4, Bool.true_and, Bool.false_and, Bool.and_true, Bool.and_false, Bool.true_or, Bool.or_true, Bool.false_or, Bool.or_false, Bool.not_true, Bool.not_false]; done) | simp [c2, c4]⟩, trivial⟩) (fun _ h => h.re [0] [])
    ·
      have p13 := of_decide_eq_false c2
      refine h_skipS 4 (np_then np_finS) [0] ?_
      refine h_skipS 5 (np_then np_finS) [0] ?_
      refine h_skipS 6 (np_then np_finS) [0] ?_
      refine h_lt 7 rfl (np_then np_finS) [0] (fun _ => (t_pure (.bool false))) ?_
      refine h_lt 8 rfl (np_then np_finS) [0] (fun _ => (t_pure (.bool false))) ?_
      refine h_skipS 9 (np_then np_finS) [0] ?_
      refine h_skipS 10 (np_then np_finS) [0] ?_
      refine h_skipS 11 (np_then np_finS) [0] ?_
      refine h_lt 12 rfl (np_then np_finS) [0] (fun _ => (t_pure (.bool false))) ?_
      refine h_lt 13 rfl (np_then np_finS) [0] (fun _ => (t_pure (.bool false))) ?_
      refine h_skipS 14 (np_then np_finS) [0] ?_
      refine h_skipS 15 (np_then np_finS) [0] ?_
      refine h_skipS 16 (np_then np_finS) [0] ?_
      refine h_lt 17 rfl (np_then np_finS) [0] (fun _ => (t_pure (.bool false))) ?_
      refine h_lt 18 rfl (np_then np_finS) [0] (fun _ => (t_pure (.bool false))) ?_
      refine h_skipS 19 (np_then np_finS) [0] ?_
      refine h_skipS 20 (np_then np_finS) [0] ?_
      refine h_skipS 22 (np_then np_finS) [0] ?_
      refine h_skipS 23 (np_then np_finS) [0] ?_
      refine h_stepS 21 ?_
      refine s_skip ?_
      refine s_nil (xs_held [0] ?_)
      refine h_stepS 24 ?_
      refine s_skip ?_
      refine s_nil (xs_held [0] ?_)
      refine h_skipS 25 (np_then np_finS) [0] ?_
      refine h_lt 26 rfl (np_then np_finS) [0] (fun _ => (t_pure (.bool false))) ?_
      refine h_lt 27 rfl (np_then np_finS) [0] (fun _ => (t_pure (.bool false))) ?_
      refine h_doneS ?_
      exact xs_cut () trivial (sub_of rfl ⟨⟨rfl, show Value.bool false = Value.bool ((decide ((1 : Int) ≤ q)) && ((decide (q ≤ 2147483647)) && ((decide (p ≤ 2147483647)) && ((decide ((-2147483647) ≤ p)) && (decide (((Nat.gcd ((if p < (-p) then (-p) else p)).toNat (q).toNat : Nat) : Int) = 1)))))) by first | (simp only [c2, Bool.true_and, Bool.false_and, Bool.and_true, Bool.and_false, Bool.true_or, Bool.or_true, Bool.false_or, Bool.or_false, Bool.not_true, Bool.not_false]; done) | simp [c2]⟩, trivial⟩) (fun _ h => h.re [0] [])
  ·
    refine k_ret <| xs_fin [.bool ((decide ((1 : Int) ≤ q)) && ((decide (q ≤ 2147483647)) && ((decide (p ≤ 2147483647)) && ((decide ((-2147483647) ≤ p)) && (decide (((Nat.gcd ((if p < (-p) then (-p) else p)).toNat (q).toNat : Nat) : Int) = 1))))))] [] (SI.tmp 2 SI.nil) (fun _ h => h.re [] [0]) ⟨?_, rfl⟩
    exact congrArg Value.bool (rvalidN_eq p q)
theorem valid_s {Z : Zone} (v : Vl) : SF Tryz.prog 141 #[v.v] Z [] fun r Bs => r = .bool (validB v) ∧ Bs = [] := by
 refine sf_enter Tryz.func141 74 [(0, .agg (vc v))] (fun w0 => ?_)
 refine k_sr <| s_box (vc v) (fun g1 => ?_)
 refine sp (.bool false) ?_
 refine s_nr ?_
 refine sp (pB g1 0) ?_
 refine s_lt (t_load 0 (iw v.kind)) ?_
 refine s_lt (t_kern (.agg #[iw v.kind, iw 0, iw 0, sw eb, iw 0])) ?_
 refine s_alloc (.agg zc) zc (fun g2 => ?_)
 refine s_store 0 #[iw v.kind, iw 0, iw 0, sw eb, iw 0] ?_
 refine s_nr ?_
 refine sp (.bool true) ?_
 refine s_nt <| k_seq <| k_sr <| sp (pB g1 0) ?_
 refine s_lt (t_load 1 (iw v.kind)) ?_
 refine s_nt <| k_block ?_
 refine k_sr <| s_lt t_cmp ?_
 refine sp (.bool (decide (v.kind = 0))) ?_
 refine s_nt <| k_cond (decide (v.kind = 0)) (fun c3 => ?_) (fun c3 => ?_)
 ·
  have p4 := of_decide_eq_true c3
  refine k_skip ?_
  refine xs_block ?_
  refine xs_then <| k_sr <| sp (.bool true) ?_
  refine sp (.bool true) ?_
  refine s_lt (t_loadA 1 (vc v)) ?_
  refine s_lt (t_loadA 0 #[iw v.kind, iw 0, iw 0, sw eb, iw 0]) ?_
  refine s_lt (t_eqS (fun w => (eqVlT v (⟨v.kind, 0, 0, eb, 0⟩ : Vl) w).1)) ?_
  refine sp (.bool (decide (v = (⟨v.kind, 0, 0, eb, 0⟩ : Vl)))) ?_
  refine sp (.bool (decide (v = (⟨v.kind, 0, 0, eb, 0⟩ : Vl)))) ?_
  refine s_nt <| k_ret <| xs_fin [.bool (decide (v = (⟨v.kind, 0, 0, eb, 0⟩ : Vl)))] [] (SI.tmp 2 SI.nil) (fun _ h => h.re [] [0, 0]) ⟨?_, rfl⟩
  refine congrArg Value.bool ?_
  first | (simp [validB, p4]; done) | (rw [Bool.and_comm]; simp [validB, p4]; done) | (rw [Bool.eq_iff_iff]; simp [validB, p4, and_comm, and_left_comm, and_assoc]; done)
 ·
  have p5 := of_decide_eq_false c3
  refine k_sr <| s_lt t_cmp ?_
  refine sp (.bool (decide (v.kind = 1))) ?_
  refine s_nt <| k_cond (decide (v.kind = 1)) (fun c6 => ?_) (fun c6 => ?_)
  ·
   have p7 := of_decide_eq_true c6
   refine k_sr <| sp (pB g1 4) ?_
   refine s_lt (t_load 1 (iw v.ref)) ?_
   refine sp (pB g2 4) ?_
   refine s_store 0 #[iw v.kind, iw 0, iw 0, sw eb, iw v.ref] ?_
   refine s_nt <| k_reg ?_
   refine sp (pB g1 4) ?_
   refine s_lt (t_load 1 (iw v.ref)) ?_
   refine s_lt t_cmp ?_
   refine sp (.bool (decide (v.ref = 0))) ?_
   refine s_fork 20 (decide (v.ref = 0)) (fun c8 => ?_) (fun c8 => ?_)
   ·
    have p9 := of_decide_eq_true c8
    refine s_skip ?_
    refine s_skip ?_
    refine s_skip ?_
    refine sp (.bool true) ?_
    refine sp (.bool true) ?_
    refine s_nil <| xs_block ?_
    refine xs_then <| k_sr <| sp (.bool true) ?_
    refine sp (.bool true) ?_
    refine s_lt (t_loadA 1 (vc v)) ?_
    refine s_lt (t_loadA 0 #[iw v.kind, iw 0, iw 0, sw eb, iw v.ref]) ?_
    refine s_lt (t_eqS (fun w => (eqVlT v (⟨v.kind, 0, 0, eb, v.ref⟩ : Vl) w).1)) ?_
    refine sp (.bool (decide (v = (⟨v.kind, 0, 0, eb, v.ref⟩ : Vl)))) ?_
    refine sp (.bool (decide (v = (⟨v.kind, 0, 0, eb, v.ref⟩ : Vl)))) ?_
    refine s_nt <| k_ret <| xs_fin [.bool (decide (v = (⟨v.kind, 0, 0, eb, v.ref⟩ : Vl)))] [] (SI.tmp 2 SI.nil) (fun _ h => h.re [] [0, 0]) ⟨?_, rfl⟩
    refine congrArg Value.bool ?_
    first | (simp [validB, p5, p7, p9]; done) | (rw [Bool.and_comm]; simp [validB, p5, p7, p9]; done) | (rw [Bool.eq_iff_iff]; simp [validB, p5, p7, p9, and_comm, and_left_comm, and_assoc]; done)
   ·
    have p10 := of_decide_eq_false c8
    refine sp (pB g1 4) ?_
    refine s_lt (t_load 1 (iw v.ref)) ?_
    refine s_lt t_cmp ?_
    refine sp (.bool (decide (v.ref = 1))) ?_
    refine sp (.bool (decide (v.ref = 1))) ?_
    refine s_nil <| xs_block ?_
    refine xs_then <| k_cut (ι := Unit) (fun _ => True) (fun _ => [(2, .bool ((decide (v.ref = 1)) && (decide (v = (⟨v.kind, 0, 0, eb, v.ref⟩ : Vl)))))]) (fun _ => [blkA g2 #[iw v.kind, iw 0, iw 0, sw eb, iw v.ref] 71, blkA g1 (vc v) 71]) ?_ (fun _ _ => ?_)
    ·
     refine k_reg ?_
     refine sp (.bool (decide (v.ref = 1))) ?_
     refine sp (.bool (decide (v.ref = 1))) ?_
     refine s_fork 69 (decide (v.ref = 1)) (fun c11 => ?_) (fun c11 => ?_)
     ·
      have p12 := of_decide_eq_true c11
      refine s_lt (t_loadA 1 (vc v)) ?_
      refine s_lt (t_loadA 0 #[iw v.kind, iw 0, iw 0, sw eb, iw v.ref]) ?_
      refine s_lt (t_eqS (fun w => (eqVlT v (⟨v.kind, 0, 0, eb, v.ref⟩ : Vl) w).1)) ?_
      refine sp (.bool (decide (v = (⟨v.kind, 0, 0, eb, v.ref⟩ : Vl)))) ?_
      refine sp (.bool (decide (v = (⟨v.kind, 0, 0, eb, v.ref⟩ : Vl)))) ?_
      refine s_nil ?_
      exact xs_cut () trivial (sub_of rfl ⟨⟨rfl, show Value.bool (decide (v = (⟨v.kind, 0, 0, eb, v.ref⟩ : Vl))) = Value.bool ((decide (v.ref = 1)) && (decide (v = (⟨v.kind, 0, 0, eb, v.ref⟩ : Vl)))) by first | (simp only [c11, bls]; done) | simp [c11]⟩, trivial⟩) (fun _ h => h.re [0, 0] [])
     ·
      have p13 := of_decide_eq_false c11
      refine s_skip ?_
      refine s_skip ?_
      refine s_skip ?_
      refine sp (.bool false) ?_
      refine sp (.bool false) ?_
      refine s_nil ?_
      exact xs_cut () trivial (sub_of rfl ⟨⟨rfl, show Value.bool false = Value.bool ((decide (v.ref = 1)) && (decide (v = (⟨v.kind, 0, 0, eb, v.ref⟩ : Vl)))) by first | (simp only [c11, bls]; done) | simp [c11]⟩, trivial⟩) (fun _ h => h.re [0, 0] [])
    ·
     refine k_ret <| xs_fin [.bool ((decide (v.ref = 1)) && (decide (v = (⟨v.kind, 0, 0, eb, v.ref⟩ : Vl))))] [] (SI.tmp 2 SI.nil) (fun _ h => h.re [] [0, 0]) ⟨?_, rfl⟩
     refine congrArg Value.bool ?_
     first | (simp [validB, p5, p7, p10]; done) | (rw [Bool.and_comm]; simp [validB, p5, p7, p10]; done) | (rw [Bool.eq_iff_iff]; simp [validB, p5, p7, p10, and_comm, and_left_comm, and_assoc]; done)
  ·
   have p14 := of_decide_eq_false c6
   refine k_sr <| s_lt t_cmp ?_
   refine sp (.bool (decide (v.kind = 2))) ?_
   refine s_nt <| k_cond (decide (v.kind = 2)) (fun c15 => ?_) (fun c15 => ?_)
   ·
    have p16 := of_decide_eq_true c15
    refine k_sr <| sp (pB g1 1) ?_
    refine s_lt (t_loadA 1 #[iw v.p, iw v.q]) ?_
    refine sp (pB g2 1) ?_
    refine s_store 0 #[iw v.kind, iw v.p, iw v.q, sw eb, iw 0] ?_
    refine s_nt <| k_reg ?_
    refine sp (pB g1 1) ?_
    refine s_lt (t_loadA 1 #[iw v.p, iw v.q]) ?_
    refine s_vcall (fun _ h => vnum_s v.p v.q) ?_
    rintro _ rfl
    refine sp (.bool (validN v.p v.q)) ?_
    refine s_nil <| xs_block ?_
    refine xs_then <| k_cut (ι := Unit) (fun _ => True) (fun _ => [(2, .bool ((validN v.p v.q) && (decide (v = (⟨v.kind, v.p, v.q, eb, 0⟩ : Vl)))))]) (fun _ => [blkA g2 #[iw v.kind, iw v.p, iw v.q, sw eb, iw 0] 71, blkA g1 (vc v) 71]) ?_ (fun _ _ => ?_)
    ·
     refine k_reg ?_
     refine sp (.bool (validN v.p v.q)) ?_
     refine sp (.bool (validN v.p v.q)) ?_
     refine s_fork 69 (validN v.p v.q) (fun c17 => ?_) (fun c17 => ?_)
     ·
      refine s_lt (t_loadA 1 (vc v)) ?_
      refine s_lt (t_loadA 0 #[iw v.kind, iw v.p, iw v.q, sw eb, iw 0]) ?_
      refine s_lt (t_eqS (fun w => (eqVlT v (⟨v.kind, v.p, v.q, eb, 0⟩ : Vl) w).1)) ?_
      refine sp (.bool (decide (v = (⟨v.kind, v.p, v.q, eb, 0⟩ : Vl)))) ?_
      refine sp (.bool (decide (v = (⟨v.kind, v.p, v.q, eb, 0⟩ : Vl)))) ?_
      refine s_nil ?_
      exact xs_cut () trivial (sub_of rfl ⟨⟨rfl, show Value.bool (decide (v = (⟨v.kind, v.p, v.q, eb, 0⟩ : Vl))) = Value.bool ((validN v.p v.q) && (decide (v = (⟨v.kind, v.p, v.q, eb, 0⟩ : Vl)))) by first | (simp only [c17, bls]; done) | simp [c17]⟩, trivial⟩) (fun _ h => h.re [0, 0] [])
     ·
      refine s_skip ?_
      refine s_skip ?_
      refine s_skip ?_
      refine sp (.bool false) ?_
      refine sp (.bool false) ?_
      refine s_nil ?_
      exact xs_cut () trivial (sub_of rfl ⟨⟨rfl, show Value.bool false = Value.bool ((validN v.p v.q) && (decide (v = (⟨v.kind, v.p, v.q, eb, 0⟩ : Vl)))) by first | (simp only [c17, bls]; done) | simp [c17]⟩, trivial⟩) (fun _ h => h.re [0, 0] [])
    ·
     refine k_ret <| xs_fin [.bool ((validN v.p v.q) && (decide (v = (⟨v.kind, v.p, v.q, eb, 0⟩ : Vl))))] [] (SI.tmp 2 SI.nil) (fun _ h => h.re [] [0, 0]) ⟨?_, rfl⟩
     refine congrArg Value.bool ?_
     first | (simp [validB, p5, p14, p16]; done) | (rw [Bool.and_comm]; simp [validB, p5, p14, p16]; done) | (rw [Bool.eq_iff_iff]; simp [validB, p5, p14, p16, and_comm, and_left_comm, and_assoc]; done)
   ·
    have p18 := of_decide_eq_false c15
    refine k_sr <| s_lt t_cmp ?_
    refine sp (.bool (decide (v.kind = 3))) ?_
    refine s_nt <| k_cond (decide (v.kind = 3)) (fun c19 => ?_) (fun c19 => ?_)
    ·
     have p20 := of_decide_eq_true c19
     refine k_sr <| sp (pB g1 3) ?_
     refine s_lt (t_load 1 (sw v.str)) ?_
     refine sp (pB g2 3) ?_
     refine s_store 0 #[iw v.kind, iw 0, iw 0, sw v.str, iw 0] ?_
     refine s_nt <| k_reg ?_
     refine sp (pB g1 3) ?_
     refine s_lt (t_load 1 (sw v.str)) ?_
     refine s_lt (t_kern (iw (v.str.size : Int))) ?_
     refine s_lt t_cmp ?_
     refine sp (.bool (decide ((v.str.size : Int) ≤ 4096))) ?_
     refine s_nil <| xs_block ?_
     refine xs_then <| k_cut (ι := Unit) (fun _ => True) (fun _ => [(2, .bool ((decide ((v.str.size : Int) ≤ 4096)) && (decide (v = (⟨v.kind, 0, 0, v.str, 0⟩ : Vl)))))]) (fun _ => [blkA g2 #[iw v.kind, iw 0, iw 0, sw v.str, iw 0] 71, blkA g1 (vc v) 71]) ?_ (fun _ _ => ?_)
     ·
      refine k_reg ?_
      refine sp (.bool (decide ((v.str.size : Int) ≤ 4096))) ?_
      refine sp (.bool (decide ((v.str.size : Int) ≤ 4096))) ?_
      refine s_fork 69 (decide ((v.str.size : Int) ≤ 4096)) (fun c21 => ?_) (fun c21 => ?_)
      ·
       have p22 := of_decide_eq_true c21
       refine s_lt (t_loadA 1 (vc v)) ?_
       refine s_lt (t_loadA 0 #[iw v.kind, iw 0, iw 0, sw v.str, iw 0]) ?_
       refine s_lt (t_eqS (fun w => (eqVlT v (⟨v.kind, 0, 0, v.str, 0⟩ : Vl) w).1)) ?_
       refine sp (.bool (decide (v = (⟨v.kind, 0, 0, v.str, 0⟩ : Vl)))) ?_
       refine sp (.bool (decide (v = (⟨v.kind, 0, 0, v.str, 0⟩ : Vl)))) ?_
       refine s_nil ?_
       exact xs_cut () trivial (sub_of rfl ⟨⟨rfl, show Value.bool (decide (v = (⟨v.kind, 0, 0, v.str, 0⟩ : Vl))) = Value.bool ((decide ((v.str.size : Int) ≤ 4096)) && (decide (v = (⟨v.kind, 0, 0, v.str, 0⟩ : Vl)))) by first | (simp only [c21, bls]; done) | simp [c21]⟩, trivial⟩) (fun _ h => h.re [0, 0] [])
      ·
       have p23 := of_decide_eq_false c21
       refine s_skip ?_
       refine s_skip ?_
       refine s_skip ?_
       refine sp (.bool false) ?_
       refine sp (.bool false) ?_
       refine s_nil ?_
       exact xs_cut () trivial (sub_of rfl ⟨⟨rfl, show Value.bool false = Value.bool ((decide ((v.str.size : Int) ≤ 4096)) && (decide (v = (⟨v.kind, 0, 0, v.str, 0⟩ : Vl)))) by first | (simp only [c21, bls]; done) | simp [c21]⟩, trivial⟩) (fun _ h => h.re [0, 0] [])
     ·
      refine k_ret <| xs_fin [.bool ((decide ((v.str.size : Int) ≤ 4096)) && (decide (v = (⟨v.kind, 0, 0, v.str, 0⟩ : Vl))))] [] (SI.tmp 2 SI.nil) (fun _ h => h.re [] [0, 0]) ⟨?_, rfl⟩
      refine congrArg Value.bool ?_
      first | (simp [validB, p5, p14, p18, p20]; done) | (rw [Bool.and_comm]; simp [validB, p5, p14, p18, p20]; done) | (rw [Bool.eq_iff_iff]; simp [validB, p5, p14, p18, p20, and_comm, and_left_comm, and_assoc]; done)
    ·
     have p24 := of_decide_eq_false c19
     refine k_seq <| k_sr <| s_lt t_cmp ?_
     refine sp (.bool (decide (v.kind = 4))) ?_
     refine s_nt <| k_cond (decide (v.kind = 4)) (fun c25 => ?_) (fun c25 => ?_)
     ·
      have p26 := of_decide_eq_true c25
      refine k_st <| k_true (hv := congrArg Value.bool c25) ?_
      refine k_sr <| sp (pB g1 4) ?_
      refine s_lt (t_load 1 (iw v.ref)) ?_
      refine sp (pB g2 4) ?_
      refine s_store 0 #[iw v.kind, iw 0, iw 0, sw eb, iw v.ref] ?_
      refine s_nt <| k_reg ?_
      refine sp (pB g1 4) ?_
      refine s_lt (t_load 1 (iw v.ref)) ?_
      refine s_lt t_cmp ?_
      refine sp (.bool (decide ((1 : Int) ≤ v.ref))) ?_
      refine s_nil <| xs_block ?_
      refine xs_then <| k_cut (ι := Unit) (fun _ => True) (fun _ => [(2, .bool ((decide ((1 : Int) ≤ v.ref)) && (decide (v = (⟨v.kind, 0, 0, eb, v.ref⟩ : Vl)))))]) (fun _ => [blkA g2 #[iw v.kind, iw 0, iw 0, sw eb, iw v.ref] 71, blkA g1 (vc v) 71]) ?_ (fun _ _ => ?_)
      ·
       refine k_reg ?_
       refine sp (.bool (decide ((1 : Int) ≤ v.ref))) ?_
       refine sp (.bool (decide ((1 : Int) ≤ v.ref))) ?_
       refine s_fork 69 (decide ((1 : Int) ≤ v.ref)) (fun c27 => ?_) (fun c27 => ?_)
       ·
        have p28 := of_decide_eq_true c27
        refine s_lt (t_loadA 1 (vc v)) ?_
        refine s_lt (t_loadA 0 #[iw v.kind, iw 0, iw 0, sw eb, iw v.ref]) ?_
        refine s_lt (t_eqS (fun w => (eqVlT v (⟨v.kind, 0, 0, eb, v.ref⟩ : Vl) w).1)) ?_
        refine sp (.bool (decide (v = (⟨v.kind, 0, 0, eb, v.ref⟩ : Vl)))) ?_
        refine sp (.bool (decide (v = (⟨v.kind, 0, 0, eb, v.ref⟩ : Vl)))) ?_
        refine s_nil ?_
        exact xs_cut () trivial (sub_of rfl ⟨⟨rfl, show Value.bool (decide (v = (⟨v.kind, 0, 0, eb, v.ref⟩ : Vl))) = Value.bool ((decide ((1 : Int) ≤ v.ref)) && (decide (v = (⟨v.kind, 0, 0, eb, v.ref⟩ : Vl)))) by first | (simp only [c27, bls]; done) | simp [c27]⟩, trivial⟩) (fun _ h => h.re [0, 0] [])
       ·
        have p29 := of_decide_eq_false c27
        refine s_skip ?_
        refine s_skip ?_
        refine s_skip ?_
        refine sp (.bool false) ?_
        refine sp (.bool false) ?_
        refine s_nil ?_
        exact xs_cut () trivial (sub_of rfl ⟨⟨rfl, show Value.bool false = Value.bool ((decide ((1 : Int) ≤ v.ref)) && (decide (v = (⟨v.kind, 0, 0, eb, v.ref⟩ : Vl)))) by first | (simp only [c27, bls]; done) | simp [c27]⟩, trivial⟩) (fun _ h => h.re [0, 0] [])
      ·
       refine k_ret <| xs_fin [.bool ((decide ((1 : Int) ≤ v.ref)) && (decide (v = (⟨v.kind, 0, 0, eb, v.ref⟩ : Vl))))] [] (SI.tmp 2 SI.nil) (fun _ h => h.re [] [0, 0]) ⟨?_, rfl⟩
       refine congrArg Value.bool ?_
       first | (simp [validB, p5, p14, p18, p24, p26]; done) | (rw [Bool.and_comm]; simp [validB, p5, p14, p18, p24, p26]; done) | (rw [Bool.eq_iff_iff]; simp [validB, p5, p14, p18, p24, p26, and_comm, and_left_comm, and_assoc]; done)
     ·
      have p30 := of_decide_eq_false c25
      refine k_sr <| s_lt t_cmp ?_
      refine sp (.bool (decide (v.kind = 5))) ?_
      refine s_nt <| k_cond (decide (v.kind = 5)) (fun c31 => ?_) (fun c31 => ?_)
      ·
       have p32 := of_decide_eq_true c31
       refine k_st <| k_true (hv := congrArg Value.bool c31) ?_
       refine k_sr <| sp (pB g1 4) ?_
       refine s_lt (t_load 1 (iw v.ref)) ?_
       refine sp (pB g2 4) ?_
       refine s_store 0 #[iw v.kind, iw 0, iw 0, sw eb, iw v.ref] ?_
       refine s_nt <| k_reg ?_
       refine sp (pB g1 4) ?_
       refine s_lt (t_load 1 (iw v.ref)) ?_
       refine s_lt t_cmp ?_
       refine sp (.bool (decide ((1 : Int) ≤ v.ref))) ?_
       refine s_nil <| xs_block ?_
       refine xs_then <| k_cut (ι := Unit) (fun _ => True) (fun _ => [(2, .bool ((decide ((1 : Int) ≤ v.ref)) && (decide (v = (⟨v.kind, 0, 0, eb, v.ref⟩ : Vl)))))]) (fun _ => [blkA g2 #[iw v.kind, iw 0, iw 0, sw eb, iw v.ref] 71, blkA g1 (vc v) 71]) ?_ (fun _ _ => ?_)
       ·
        refine k_reg ?_
        refine sp (.bool (decide ((1 : Int) ≤ v.ref))) ?_
        refine sp (.bool (decide ((1 : Int) ≤ v.ref))) ?_
        refine s_fork 69 (decide ((1 : Int) ≤ v.ref)) (fun c33 => ?_) (fun c33 => ?_)
        ·
         have p34 := of_decide_eq_true c33
         refine s_lt (t_loadA 1 (vc v)) ?_
         refine s_lt (t_loadA 0 #[iw v.kind, iw 0, iw 0, sw eb, iw v.ref]) ?_
         refine s_lt (t_eqS (fun w => (eqVlT v (⟨v.kind, 0, 0, eb, v.ref⟩ : Vl) w).1)) ?_
         refine sp (.bool (decide (v = (⟨v.kind, 0, 0, eb, v.ref⟩ : Vl)))) ?_
         refine sp (.bool (decide (v = (⟨v.kind, 0, 0, eb, v.ref⟩ : Vl)))) ?_
         refine s_nil ?_
         exact xs_cut () trivial (sub_of rfl ⟨⟨rfl, show Value.bool (decide (v = (⟨v.kind, 0, 0, eb, v.ref⟩ : Vl))) = Value.bool ((decide ((1 : Int) ≤ v.ref)) && (decide (v = (⟨v.kind, 0, 0, eb, v.ref⟩ : Vl)))) by first | (simp only [c33, bls]; done) | simp [c33]⟩, trivial⟩) (fun _ h => h.re [0, 0] [])
        ·
         have p35 := of_decide_eq_false c33
         refine s_skip ?_
         refine s_skip ?_
         refine s_skip ?_
         refine sp (.bool false) ?_
         refine sp (.bool false) ?_
         refine s_nil ?_
         exact xs_cut () trivial (sub_of rfl ⟨⟨rfl, show Value.bool false = Value.bool ((decide ((1 : Int) ≤ v.ref)) && (decide (v = (⟨v.kind, 0, 0, eb, v.ref⟩ : Vl)))) by first | (simp only [c33, bls]; done) | simp [c33]⟩, trivial⟩) (fun _ h => h.re [0, 0] [])
       ·
        refine k_ret <| xs_fin [.bool ((decide ((1 : Int) ≤ v.ref)) && (decide (v = (⟨v.kind, 0, 0, eb, v.ref⟩ : Vl))))] [] (SI.tmp 2 SI.nil) (fun _ h => h.re [] [0, 0]) ⟨?_, rfl⟩
        refine congrArg Value.bool ?_
        first | (simp [validB, p5, p14, p18, p24, p30, p32]; done) | (rw [Bool.and_comm]; simp [validB, p5, p14, p18, p24, p30, p32]; done) | (rw [Bool.eq_iff_iff]; simp [validB, p5, p14, p18, p24, p30, p32, and_comm, and_left_comm, and_assoc]; done)
      ·
       have p36 := of_decide_eq_false c31
       refine k_sr <| s_lt t_cmp ?_
       refine sp (.bool (decide (v.kind = 7))) ?_
       refine s_nt <| k_cond (decide (v.kind = 7)) (fun c37 => ?_) (fun c37 => ?_)
       ·
        have p38 := of_decide_eq_true c37
        refine k_st <| k_true (hv := congrArg Value.bool c37) ?_
        refine k_sr <| sp (pB g1 4) ?_
        refine s_lt (t_load 1 (iw v.ref)) ?_
        refine sp (pB g2 4) ?_
        refine s_store 0 #[iw v.kind, iw 0, iw 0, sw eb, iw v.ref] ?_
        refine s_nt <| k_reg ?_
        refine sp (pB g1 4) ?_
        refine s_lt (t_load 1 (iw v.ref)) ?_
        refine s_lt t_cmp ?_
        refine sp (.bool (decide ((1 : Int) ≤ v.ref))) ?_
        refine s_nil <| xs_block ?_
        refine xs_then <| k_cut (ι := Unit) (fun _ => True) (fun _ => [(2, .bool ((decide ((1 : Int) ≤ v.ref)) && (decide (v = (⟨v.kind, 0, 0, eb, v.ref⟩ : Vl)))))]) (fun _ => [blkA g2 #[iw v.kind, iw 0, iw 0, sw eb, iw v.ref] 71, blkA g1 (vc v) 71]) ?_ (fun _ _ => ?_)
        ·
         refine k_reg ?_
         refine sp (.bool (decide ((1 : Int) ≤ v.ref))) ?_
         refine sp (.bool (decide ((1 : Int) ≤ v.ref))) ?_
         refine s_fork 69 (decide ((1 : Int) ≤ v.ref)) (fun c39 => ?_) (fun c39 => ?_)
         ·
          have p40 := of_decide_eq_true c39
          refine s_lt (t_loadA 1 (vc v)) ?_
          refine s_lt (t_loadA 0 #[iw v.kind, iw 0, iw 0, sw eb, iw v.ref]) ?_
          refine s_lt (t_eqS (fun w => (eqVlT v (⟨v.kind, 0, 0, eb, v.ref⟩ : Vl) w).1)) ?_
          refine sp (.bool (decide (v = (⟨v.kind, 0, 0, eb, v.ref⟩ : Vl)))) ?_
          refine sp (.bool (decide (v = (⟨v.kind, 0, 0, eb, v.ref⟩ : Vl)))) ?_
          refine s_nil ?_
          exact xs_cut () trivial (sub_of rfl ⟨⟨rfl, show Value.bool (decide (v = (⟨v.kind, 0, 0, eb, v.ref⟩ : Vl))) = Value.bool ((decide ((1 : Int) ≤ v.ref)) && (decide (v = (⟨v.kind, 0, 0, eb, v.ref⟩ : Vl)))) by first | (simp only [c39, bls]; done) | simp [c39]⟩, trivial⟩) (fun _ h => h.re [0, 0] [])
         ·
          have p41 := of_decide_eq_false c39
          refine s_skip ?_
          refine s_skip ?_
          refine s_skip ?_
          refine sp (.bool false) ?_
          refine sp (.bool false) ?_
          refine s_nil ?_
          exact xs_cut () trivial (sub_of rfl ⟨⟨rfl, show Value.bool false = Value.bool ((decide ((1 : Int) ≤ v.ref)) && (decide (v = (⟨v.kind, 0, 0, eb, v.ref⟩ : Vl)))) by first | (simp only [c39, bls]; done) | simp [c39]⟩, trivial⟩) (fun _ h => h.re [0, 0] [])
        ·
         refine k_ret <| xs_fin [.bool ((decide ((1 : Int) ≤ v.ref)) && (decide (v = (⟨v.kind, 0, 0, eb, v.ref⟩ : Vl))))] [] (SI.tmp 2 SI.nil) (fun _ h => h.re [] [0, 0]) ⟨?_, rfl⟩
         refine congrArg Value.bool ?_
         first | (simp [validB, p5, p14, p18, p24, p30, p36, p38]; done) | (rw [Bool.and_comm]; simp [validB, p5, p14, p18, p24, p30, p36, p38]; done) | (rw [Bool.eq_iff_iff]; simp [validB, p5, p14, p18, p24, p30, p36, p38, and_comm, and_left_comm, and_assoc]; done)
       ·
        have p42 := of_decide_eq_false c37
        refine k_reg ?_
        refine s_lt t_cmp ?_
        refine sp (.bool (decide (v.kind = 8))) ?_
        refine s_nt <| k_cond (decide (v.kind = 8)) (fun c43 => ?_) (fun c43 => ?_)
        ·
         have p44 := of_decide_eq_true c43
         refine k_sr <| sp (pB g1 4) ?_
         refine s_lt (t_load 1 (iw v.ref)) ?_
         refine sp (pB g2 4) ?_
         refine s_store 0 #[iw v.kind, iw 0, iw 0, sw eb, iw v.ref] ?_
         refine s_nt <| k_reg ?_
         refine sp (pB g1 4) ?_
         refine s_lt (t_load 1 (iw v.ref)) ?_
         refine s_lt t_cmp ?_
         refine sp (.bool (decide ((1 : Int) ≤ v.ref))) ?_
         refine s_nil <| xs_block ?_
         refine xs_then <| k_cut (ι := Unit) (fun _ => True) (fun _ => [(2, .bool ((decide ((1 : Int) ≤ v.ref)) && (decide (v = (⟨v.kind, 0, 0, eb, v.ref⟩ : Vl)))))]) (fun _ => [blkA g2 #[iw v.kind, iw 0, iw 0, sw eb, iw v.ref] 71, blkA g1 (vc v) 71]) ?_ (fun _ _ => ?_)
         ·
          refine k_reg ?_
          refine sp (.bool (decide ((1 : Int) ≤ v.ref))) ?_
          refine sp (.bool (decide ((1 : Int) ≤ v.ref))) ?_
          refine s_fork 69 (decide ((1 : Int) ≤ v.ref)) (fun c45 => ?_) (fun c45 => ?_)
          ·
           have p46 := of_decide_eq_true c45
           refine s_lt (t_loadA 1 (vc v)) ?_
           refine s_lt (t_loadA 0 #[iw v.kind, iw 0, iw 0, sw eb, iw v.ref]) ?_
           refine s_lt (t_eqS (fun w => (eqVlT v (⟨v.kind, 0, 0, eb, v.ref⟩ : Vl) w).1)) ?_
           refine sp (.bool (decide (v = (⟨v.kind, 0, 0, eb, v.ref⟩ : Vl)))) ?_
           refine sp (.bool (decide (v = (⟨v.kind, 0, 0, eb, v.ref⟩ : Vl)))) ?_
           refine s_nil ?_
           exact xs_cut () trivial (sub_of rfl ⟨⟨rfl, show Value.bool (decide (v = (⟨v.kind, 0, 0, eb, v.ref⟩ : Vl))) = Value.bool ((decide ((1 : Int) ≤ v.ref)) && (decide (v = (⟨v.kind, 0, 0, eb, v.ref⟩ : Vl)))) by first | (simp only [c45, bls]; done) | simp [c45]⟩, trivial⟩) (fun _ h => h.re [0, 0] [])
          ·
           have p47 := of_decide_eq_false c45
           refine s_skip ?_
           refine s_skip ?_
           refine s_skip ?_
           refine sp (.bool false) ?_
           refine sp (.bool false) ?_
           refine s_nil ?_
           exact xs_cut () trivial (sub_of rfl ⟨⟨rfl, show Value.bool false = Value.bool ((decide ((1 : Int) ≤ v.ref)) && (decide (v = (⟨v.kind, 0, 0, eb, v.ref⟩ : Vl)))) by first | (simp only [c45, bls]; done) | simp [c45]⟩, trivial⟩) (fun _ h => h.re [0, 0] [])
         ·
          refine k_ret <| xs_fin [.bool ((decide ((1 : Int) ≤ v.ref)) && (decide (v = (⟨v.kind, 0, 0, eb, v.ref⟩ : Vl))))] [] (SI.tmp 2 SI.nil) (fun _ h => h.re [] [0, 0]) ⟨?_, rfl⟩
          refine congrArg Value.bool ?_
          first | (simp [validB, p5, p14, p18, p24, p30, p36, p42, p44]; done) | (rw [Bool.and_comm]; simp [validB, p5, p14, p18, p24, p30, p36, p42, p44]; done) | (rw [Bool.eq_iff_iff]; simp [validB, p5, p14, p18, p24, p30, p36, p42, p44, and_comm, and_left_comm, and_assoc]; done)
        ·
         have p48 := of_decide_eq_false c43
         refine k_sr <| s_lt t_cmp ?_
         refine sp (.bool (decide (v.kind = 6))) ?_
         refine s_nt <| k_cond (decide (v.kind = 6)) (fun c49 => ?_) (fun c49 => ?_)
         ·
          have p50 := of_decide_eq_true c49
          refine k_sr <| sp (pB g1 3) ?_
          refine s_lt (t_load 1 (sw v.str)) ?_
          refine sp (pB g2 3) ?_
          refine s_store 0 #[iw v.kind, iw 0, iw 0, sw v.str, iw 0] ?_
          refine s_nt <| k_reg ?_
          refine sp (pB g1 3) ?_
          refine s_lt (t_load 1 (sw v.str)) ?_
          refine s_lt (t_kern (iw (v.str.size : Int))) ?_
          refine s_lt t_cmp ?_
          refine sp (.bool (decide ((1 : Int) ≤ (v.str.size : Int)))) ?_
          refine s_fork 62 (decide ((1 : Int) ≤ (v.str.size : Int))) (fun c51 => ?_) (fun c51 => ?_)
          ·
           have p52 := of_decide_eq_true c51
           refine sp (pB g1 3) ?_
           refine s_lt (t_load 1 (sw v.str)) ?_
           refine s_lt (t_kern (iw (v.str.size : Int))) ?_
           refine s_lt t_cmp ?_
           refine sp (.bool (decide ((v.str.size : Int) ≤ 4096))) ?_
           refine sp (.bool (decide ((v.str.size : Int) ≤ 4096))) ?_
           refine s_nil <| xs_block ?_
           refine xs_then <| k_cut (ι := Unit) (fun _ => True) (fun _ => [(2, .bool ((decide ((v.str.size : Int) ≤ 4096)) && (decide (v = (⟨v.kind, 0, 0, v.str, 0⟩ : Vl)))))]) (fun _ => [blkA g2 #[iw v.kind, iw 0, iw 0, sw v.str, iw 0] 71, blkA g1 (vc v) 71]) ?_ (fun _ _ => ?_)
           ·
            refine k_reg ?_
            refine sp (.bool (decide ((v.str.size : Int) ≤ 4096))) ?_
            refine sp (.bool (decide ((v.str.size : Int) ≤ 4096))) ?_
            refine s_fork 69 (decide ((v.str.size : Int) ≤ 4096)) (fun c53 => ?_) (fun c53 => ?_)
            ·
             have p54 := of_decide_eq_true c53
             refine s_lt (t_loadA 1 (vc v)) ?_
             refine s_lt (t_loadA 0 #[iw v.kind, iw 0, iw 0, sw v.str, iw 0]) ?_
             refine s_lt (t_eqS (fun w => (eqVlT v (⟨v.kind, 0, 0, v.str, 0⟩ : Vl) w).1)) ?_
             refine sp (.bool (decide (v = (⟨v.kind, 0, 0, v.str, 0⟩ : Vl)))) ?_
             refine sp (.bool (decide (v = (⟨v.kind, 0, 0, v.str, 0⟩ : Vl)))) ?_
             refine s_nil ?_
             exact xs_cut () trivial (sub_of rfl ⟨⟨rfl, show Value.bool (decide (v = (⟨v.kind, 0, 0, v.str, 0⟩ : Vl))) = Value.bool ((decide ((v.str.size : Int) ≤ 4096)) && (decide (v = (⟨v.kind, 0, 0, v.str, 0⟩ : Vl)))) by first | (simp only [c53, bls]; done) | simp [c53]⟩, trivial⟩) (fun _ h => h.re [0, 0] [])
            ·
             have p55 := of_decide_eq_false c53
             refine s_skip ?_
             refine s_skip ?_
             refine s_skip ?_
             refine sp (.bool false) ?_
             refine sp (.bool false) ?_
             refine s_nil ?_
             exact xs_cut () trivial (sub_of rfl ⟨⟨rfl, show Value.bool false = Value.bool ((decide ((v.str.size : Int) ≤ 4096)) && (decide (v = (⟨v.kind, 0, 0, v.str, 0⟩ : Vl)))) by first | (simp only [c53, bls]; done) | simp [c53]⟩, trivial⟩) (fun _ h => h.re [0, 0] [])
           ·
            refine k_ret <| xs_fin [.bool ((decide ((v.str.size : Int) ≤ 4096)) && (decide (v = (⟨v.kind, 0, 0, v.str, 0⟩ : Vl))))] [] (SI.tmp 2 SI.nil) (fun _ h => h.re [] [0, 0]) ⟨?_, rfl⟩
            refine congrArg Value.bool ?_
            first | (simp [validB, p5, p14, p18, p24, p30, p36, p42, p48, p50, p52]; done) | (rw [Bool.and_comm]; simp [validB, p5, p14, p18, p24, p30, p36, p42, p48, p50, p52]; done) | (rw [Bool.eq_iff_iff]; simp [validB, p5, p14, p18, p24, p30, p36, p42, p48, p50, p52, and_comm, and_left_comm, and_assoc]; done)
          ·
           have p56 := of_decide_eq_false c51
           refine s_skip ?_
           refine s_skip ?_
           refine s_skip ?_
           refine s_skip ?_
           refine sp (.bool false) ?_
           refine sp (.bool false) ?_
           refine s_nil <| xs_block ?_
           refine xs_then <| k_sr <| sp (.bool false) ?_
           refine sp (.bool false) ?_
           refine s_skip ?_
           refine s_skip ?_
           refine s_skip ?_
           refine sp (.bool false) ?_
           refine sp (.bool false) ?_
           refine s_nt <| k_ret <| xs_fin [.bool false] [] (SI.tmp 2 SI.nil) (fun _ h => h.re [] [0, 0]) ⟨?_, rfl⟩
           refine congrArg Value.bool ?_
           first | (simp [validB, p5, p14, p18, p24, p30, p36, p42, p48, p50, p56]; done) | (rw [Bool.and_comm]; simp [validB, p5, p14, p18, p24, p30, p36, p42, p48, p50, p56]; done) | (rw [Bool.eq_iff_iff]; simp [validB, p5, p14, p18, p24, p30, p36, p42, p48, p50, p56, and_comm, and_left_comm, and_assoc]; done)
         ·
          have p57 := of_decide_eq_false c49
          refine k_reg ?_
          refine sp (.bool false) ?_
          refine s_nil <| xs_block ?_
          refine xs_then <| k_sr <| sp (.bool false) ?_
          refine sp (.bool false) ?_
          refine s_skip ?_
          refine s_skip ?_
          refine s_skip ?_
          refine sp (.bool false) ?_
          refine sp (.bool false) ?_
          refine s_nt <| k_ret <| xs_fin [.bool false] [] (SI.tmp 2 SI.nil) (fun _ h => h.re [] [0, 0]) ⟨?_, rfl⟩
          refine congrArg Value.bool ?_
          first | (simp [validB, p5, p14, p18, p24, p30, p36, p42, p48, p57]; done) | (rw [Bool.and_comm]; simp [validB, p5, p14, p18, p24, p30, p36, p42, p48, p57]; done) | (rw [Bool.eq_iff_iff]; simp [validB, p5, p14, p18, p24, p30, p36, p42, p48, p57, and_comm, and_left_comm, and_assoc]; done)
theorem rvalid_s {Z : Zone} (v : Vl) : SF Tryz.prog 146 #[v.v] Z [] fun r Bs => r = .bool (validB v) ∧ Bs = [] := by
 refine sf_enter Tryz.func146 88 [(0, .agg (vc v))] (fun w0 => ?_)
 refine k_sr <| s_box (vc v) (fun g1 => ?_)
 refine sp (.bool false) ?_
 refine s_nt <| k_seq <| k_sr <| sp (pB g1 0) ?_
 refine s_lt (t_load 0 (iw v.kind)) ?_
 refine s_nt <| k_block ?_
 refine k_sr <| s_lt t_cmp ?_
 refine sp (.bool (decide (v.kind = 0))) ?_
 refine s_nt <| k_cond (decide (v.kind = 0)) (fun c2 => ?_) (fun c2 => ?_)
 ·
  have p3 := of_decide_eq_true c2
  refine k_sr <| s_lt (t_loadA 0 (vc v)) ?_
  refine s_lt (t_kern (.agg zc)) ?_
  refine s_lt (t_eqS (fun w => (eqVlT v (⟨0, 0, 0, eb, 0⟩ : Vl) w).1)) ?_
  refine sp (.bool (decide (v = (⟨0, 0, 0, eb, 0⟩ : Vl)))) ?_
  refine s_nt <| k_ret <| xs_retBlock ?_
  refine xs_ret <| xs_fin [.bool (decide (v = (⟨0, 0, 0, eb, 0⟩ : Vl)))] [] (SI.tmp 2 SI.nil) (fun _ h => h.re [] [0]) ⟨?_, rfl⟩
  refine congrArg Value.bool ?_
  first | (simp [validB, p3]; done) | (rw [Bool.and_comm]; simp [validB, p3]; done) | (rw [Bool.eq_iff_iff]; simp [validB, p3, and_comm, and_left_comm, and_assoc]; done)
 ·
  have p4 := of_decide_eq_false c2
  refine k_sr <| s_lt t_cmp ?_
  refine sp (.bool (decide (v.kind = 1))) ?_
  refine s_nt <| k_cond (decide (v.kind = 1)) (fun c5 => ?_) (fun c5 => ?_)
  ·
   have p6 := of_decide_eq_true c5
   refine k_cut (ι := Unit) (fun _ => True) (fun _ => [(2, .bool ((decide (v = (⟨1, 0, 0, eb, v.ref⟩ : Vl))) && ((decide (v.ref = 0)) || (decide (v.ref = 1)))))]) (fun _ => [blkA g1 (vc v) 71]) ?_ (fun _ _ => ?_)
   ·
    refine k_reg ?_
    refine s_lt (t_loadA 0 (vc v)) ?_
    refine sp (pB g1 4) ?_
    refine s_lt (t_load 0 (iw v.ref)) ?_
    refine s_lt (t_kern (.agg #[iw 1, iw 0, iw 0, sw eb, iw v.ref])) ?_
    refine s_lt (t_eqS (fun w => (eqVlT v (⟨1, 0, 0, eb, v.ref⟩ : Vl) w).1)) ?_
    refine sp (.bool (decide (v = (⟨1, 0, 0, eb, v.ref⟩ : Vl)))) ?_
    refine s_fork 17 (decide (v = (⟨1, 0, 0, eb, v.ref⟩ : Vl))) (fun c7 => ?_) (fun c7 => ?_)
    ·
     have p8 := of_decide_eq_true c7
     refine sp (pB g1 4) ?_
     refine s_lt (t_load 0 (iw v.ref)) ?_
     refine s_lt t_cmp ?_
     refine sp (.bool (decide (v.ref = 0))) ?_
     refine s_fork 21 (decide (v.ref = 0)) (fun c9 => ?_) (fun c9 => ?_)
     ·
      have p10 := of_decide_eq_true c9
      refine s_skip ?_
      refine s_skip ?_
      refine s_skip ?_
      refine sp (.bool true) ?_
      refine sp (.bool true) ?_
      refine sp (.bool true) ?_
      refine s_nil ?_
      exact xs_cut () trivial (sub_of rfl ⟨⟨rfl, show Value.bool true = Value.bool ((decide (v = (⟨1, 0, 0, eb, v.ref⟩ : Vl))) && ((decide (v.ref = 0)) || (decide (v.ref = 1)))) by first | (simp only [c7, c9, bls]; done) | simp [c7, c9]⟩, trivial⟩) (fun _ h => h.re [0] [])
     ·
      have p11 := of_decide_eq_false c9
      refine sp (pB g1 4) ?_
      refine s_lt (t_load 0 (iw v.ref)) ?_
      refine s_lt t_cmp ?_
      refine sp (.bool (decide (v.ref = 1))) ?_
      refine sp (.bool (decide (v.ref = 1))) ?_
      refine sp (.bool (decide (v.ref = 1))) ?_
      refine s_nil ?_
      exact xs_cut () trivial (sub_of rfl ⟨⟨rfl, show Value.bool (decide (v.ref = 1)) = Value.bool ((decide (v = (⟨1, 0, 0, eb, v.ref⟩ : Vl))) && ((decide (v.ref = 0)) || (decide (v.ref = 1)))) by first | (simp only [c7, c9, bls]; done) | simp [c7, c9]⟩, trivial⟩) (fun _ h => h.re [0] [])
    ·
     have p12 := of_decide_eq_false c7
     refine s_skip ?_
     refine s_skip ?_
     refine s_skip ?_
     refine s_skip ?_
     refine s_skip ?_
     refine s_skip ?_
     refine s_skip ?_
     refine s_skip ?_
     refine sp (.bool false) ?_
     refine sp (.bool false) ?_
     refine s_nil ?_
     exact xs_cut () trivial (sub_of rfl ⟨⟨rfl, show Value.bool false = Value.bool ((decide (v = (⟨1, 0, 0, eb, v.ref⟩ : Vl))) && ((decide (v.ref = 0)) || (decide (v.ref = 1)))) by first | (simp only [c7, bls]; done) | simp [c7]⟩, trivial⟩) (fun _ h => h.re [0] [])
   ·
    refine k_ret <| xs_retBlock ?_
    refine xs_ret <| xs_fin [.bool ((decide (v = (⟨1, 0, 0, eb, v.ref⟩ : Vl))) && ((decide (v.ref = 0)) || (decide (v.ref = 1))))] [] (SI.tmp 2 SI.nil) (fun _ h => h.re [] [0]) ⟨?_, rfl⟩
    refine congrArg Value.bool ?_
    first | (simp [validB, p4, p6]; done) | (rw [Bool.and_comm]; simp [validB, p4, p6]; done) | (rw [Bool.eq_iff_iff]; simp [validB, p4, p6, and_comm, and_left_comm, and_assoc]; done)
  ·
   have p13 := of_decide_eq_false c5
   refine k_sr <| s_lt t_cmp ?_
   refine sp (.bool (decide (v.kind = 2))) ?_
   refine s_nt <| k_cond (decide (v.kind = 2)) (fun c14 => ?_) (fun c14 => ?_)
   ·
    have p15 := of_decide_eq_true c14
    refine k_cut (ι := Unit) (fun _ => True) (fun _ => [(2, .bool ((decide (v = (⟨2, v.p, v.q, eb, 0⟩ : Vl))) && (validN v.p v.q)))]) (fun _ => [blkA g1 (vc v) 71]) ?_ (fun _ _ => ?_)
    ·
     refine k_reg ?_
     refine s_lt (t_loadA 0 (vc v)) ?_
     refine sp (pB g1 1) ?_
     refine s_lt (t_loadA 0 #[iw v.p, iw v.q]) ?_
     refine s_lt (t_kern (.agg #[iw 2, iw v.p, iw v.q, sw eb, iw 0])) ?_
     refine s_lt (t_eqS (fun w => (eqVlT v (⟨2, v.p, v.q, eb, 0⟩ : Vl) w).1)) ?_
     refine sp (.bool (decide (v = (⟨2, v.p, v.q, eb, 0⟩ : Vl)))) ?_
     refine s_fork 34 (decide (v = (⟨2, v.p, v.q, eb, 0⟩ : Vl))) (fun c16 => ?_) (fun c16 => ?_)
     ·
      have p17 := of_decide_eq_true c16
      refine sp (pB g1 1) ?_
      refine s_lt (t_loadA 0 #[iw v.p, iw v.q]) ?_
      refine s_vcall (fun _ h => rvnum_s v.p v.q) ?_
      rintro _ rfl
      refine sp (.bool (validN v.p v.q)) ?_
      refine sp (.bool (validN v.p v.q)) ?_
      refine s_nil ?_
      exact xs_cut () trivial (sub_of rfl ⟨⟨rfl, show Value.bool (validN v.p v.q) = Value.bool ((decide (v = (⟨2, v.p, v.q, eb, 0⟩ : Vl))) && (validN v.p v.q)) by first | (simp only [c16, bls]; done) | simp [c16]⟩, trivial⟩) (fun _ h => h.re [0] [])
     ·
      have p18 := of_decide_eq_false c16
      refine s_skip ?_
      refine s_skip ?_
      refine s_skip ?_
      refine sp (.bool false) ?_
      refine sp (.bool false) ?_
      refine s_nil ?_
      exact xs_cut () trivial (sub_of rfl ⟨⟨rfl, show Value.bool false = Value.bool ((decide (v = (⟨2, v.p, v.q, eb, 0⟩ : Vl))) && (validN v.p v.q)) by first | (simp only [c16, bls]; done) | simp [c16]⟩, trivial⟩) (fun _ h => h.re [0] [])
    ·
     refine k_ret <| xs_retBlock ?_
     refine xs_ret <| xs_fin [.bool ((decide (v = (⟨2, v.p, v.q, eb, 0⟩ : Vl))) && (validN v.p v.q))] [] (SI.tmp 2 SI.nil) (fun _ h => h.re [] [0]) ⟨?_, rfl⟩
     refine congrArg Value.bool ?_
     first | (simp [validB, p4, p13, p15]; done) | (rw [Bool.and_comm]; simp [validB, p4, p13, p15]; done) | (rw [Bool.eq_iff_iff]; simp [validB, p4, p13, p15, and_comm, and_left_comm, and_assoc]; done)
   ·
    have p19 := of_decide_eq_false c14
    refine k_sr <| s_lt t_cmp ?_
    refine sp (.bool (decide (v.kind = 3))) ?_
    refine s_nt <| k_cond (decide (v.kind = 3)) (fun c20 => ?_) (fun c20 => ?_)
    ·
     have p21 := of_decide_eq_true c20
     refine k_cut (ι := Unit) (fun _ => True) (fun _ => [(2, .bool ((decide ((v.str.size : Int) ≤ 4096)) && (decide (v = (⟨3, 0, 0, v.str, 0⟩ : Vl)))))]) (fun _ => [blkA g1 (vc v) 71]) ?_ (fun _ _ => ?_)
     ·
      refine k_reg ?_
      refine sp (pB g1 3) ?_
      refine s_lt (t_load 0 (sw v.str)) ?_
      refine s_lt (t_kern (iw (v.str.size : Int))) ?_
      refine s_lt t_cmp ?_
      refine sp (.bool (decide ((v.str.size : Int) ≤ 4096))) ?_
      refine s_fork 45 (decide ((v.str.size : Int) ≤ 4096)) (fun c22 => ?_) (fun c22 => ?_)
      ·
       have p23 := of_decide_eq_true c22
       refine s_lt (t_loadA 0 (vc v)) ?_
       refine sp (pB g1 3) ?_
       refine s_lt (t_load 0 (sw v.str)) ?_
       refine s_lt (t_kern (.agg #[iw 3, iw 0, iw 0, sw v.str, iw 0])) ?_
       refine s_lt (t_eqS (fun w => (eqVlT v (⟨3, 0, 0, v.str, 0⟩ : Vl) w).1)) ?_
       refine sp (.bool (decide (v = (⟨3, 0, 0, v.str, 0⟩ : Vl)))) ?_
       refine sp (.bool (decide (v = (⟨3, 0, 0, v.str, 0⟩ : Vl)))) ?_
       refine s_nil ?_
       exact xs_cut () trivial (sub_of rfl ⟨⟨rfl, show Value.bool (decide (v = (⟨3, 0, 0, v.str, 0⟩ : Vl))) = Value.bool ((decide ((v.str.size : Int) ≤ 4096)) && (decide (v = (⟨3, 0, 0, v.str, 0⟩ : Vl)))) by first | (simp only [c22, bls]; done) | simp [c22]⟩, trivial⟩) (fun _ h => h.re [0] [])
      ·
       have p24 := of_decide_eq_false c22
       refine s_skip ?_
       refine s_skip ?_
       refine s_skip ?_
       refine s_skip ?_
       refine s_skip ?_
       refine sp (.bool false) ?_
       refine sp (.bool false) ?_
       refine s_nil ?_
       exact xs_cut () trivial (sub_of rfl ⟨⟨rfl, show Value.bool false = Value.bool ((decide ((v.str.size : Int) ≤ 4096)) && (decide (v = (⟨3, 0, 0, v.str, 0⟩ : Vl)))) by first | (simp only [c22, bls]; done) | simp [c22]⟩, trivial⟩) (fun _ h => h.re [0] [])
     ·
      refine k_ret <| xs_retBlock ?_
      refine xs_ret <| xs_fin [.bool ((decide ((v.str.size : Int) ≤ 4096)) && (decide (v = (⟨3, 0, 0, v.str, 0⟩ : Vl))))] [] (SI.tmp 2 SI.nil) (fun _ h => h.re [] [0]) ⟨?_, rfl⟩
      refine congrArg Value.bool ?_
      first | (simp [validB, p4, p13, p19, p21]; done) | (rw [Bool.and_comm]; simp [validB, p4, p13, p19, p21]; done) | (rw [Bool.eq_iff_iff]; simp [validB, p4, p13, p19, p21, and_comm, and_left_comm, and_assoc]; done)
    ·
     have p25 := of_decide_eq_false c20
     refine k_sr <| s_lt t_cmp ?_
     refine sp (.bool (decide (v.kind = 6))) ?_
     refine s_nt <| k_cond (decide (v.kind = 6)) (fun c26 => ?_) (fun c26 => ?_)
     ·
      have p27 := of_decide_eq_true c26
      refine k_cut (ι := Unit) (fun _ => True) (fun _ => [(2, .bool ((decide ((1 : Int) ≤ (v.str.size : Int))) && ((decide ((v.str.size : Int) ≤ 4096)) && (decide (v = (⟨6, 0, 0, v.str, 0⟩ : Vl))))))]) (fun _ => [blkA g1 (vc v) 71]) ?_ (fun _ _ => ?_)
      ·
       refine k_reg ?_
       refine sp (pB g1 3) ?_
       refine s_lt (t_load 0 (sw v.str)) ?_
       refine s_lt (t_kern (iw (v.str.size : Int))) ?_
       refine s_lt t_cmp ?_
       refine sp (.bool (decide ((1 : Int) ≤ (v.str.size : Int)))) ?_
       refine s_fork 58 (decide ((1 : Int) ≤ (v.str.size : Int))) (fun c28 => ?_) (fun c28 => ?_)
       ·
        have p29 := of_decide_eq_true c28
        refine sp (pB g1 3) ?_
        refine s_lt (t_load 0 (sw v.str)) ?_
        refine s_lt (t_kern (iw (v.str.size : Int))) ?_
        refine s_lt t_cmp ?_
        refine sp (.bool (decide ((v.str.size : Int) ≤ 4096))) ?_
        refine sp (.bool (decide ((v.str.size : Int) ≤ 4096))) ?_
        refine s_fork 64 (decide ((v.str.size : Int) ≤ 4096)) (fun c30 => ?_) (fun c30 => ?_)
        ·
         have p31 := of_decide_eq_true c30
         refine s_lt (t_loadA 0 (vc v)) ?_
         refine sp (pB g1 3) ?_
         refine s_lt (t_load 0 (sw v.str)) ?_
         refine s_lt (t_kern (.agg #[iw 6, iw 0, iw 0, sw v.str, iw 0])) ?_
         refine s_lt (t_eqS (fun w => (eqVlT v (⟨6, 0, 0, v.str, 0⟩ : Vl) w).1)) ?_
         refine sp (.bool (decide (v = (⟨6, 0, 0, v.str, 0⟩ : Vl)))) ?_
         refine sp (.bool (decide (v = (⟨6, 0, 0, v.str, 0⟩ : Vl)))) ?_
         refine s_nil ?_
         exact xs_cut () trivial (sub_of rfl ⟨⟨rfl, show Value.bool (decide (v = (⟨6, 0, 0, v.str, 0⟩ : Vl))) = Value.bool ((decide ((1 : Int) ≤ (v.str.size : Int))) && ((decide ((v.str.size : Int) ≤ 4096)) && (decide (v = (⟨6, 0, 0, v.str, 0⟩ : Vl))))) by first | (simp only [c28, c30, bls]; done) | simp [c28, c30]⟩, trivial⟩) (fun _ h => h.re [0] [])
        ·
         have p32 := of_decide_eq_false c30
         refine s_skip ?_
         refine s_skip ?_
         refine s_skip ?_
         refine s_skip ?_
         refine s_skip ?_
         refine sp (.bool false) ?_
         refine sp (.bool false) ?_
         refine s_nil ?_
         exact xs_cut () trivial (sub_of rfl ⟨⟨rfl, show Value.bool false = Value.bool ((decide ((1 : Int) ≤ (v.str.size : Int))) && ((decide ((v.str.size : Int) ≤ 4096)) && (decide (v = (⟨6, 0, 0, v.str, 0⟩ : Vl))))) by first | (simp only [c28, c30, bls]; done) | simp [c28, c30]⟩, trivial⟩) (fun _ h => h.re [0] [])
       ·
        have p33 := of_decide_eq_false c28
        refine s_skip ?_
        refine s_skip ?_
        refine s_skip ?_
        refine s_skip ?_
        refine sp (.bool false) ?_
        refine sp (.bool false) ?_
        refine s_skip ?_
        refine s_skip ?_
        refine s_skip ?_
        refine s_skip ?_
        refine s_skip ?_
        refine sp (.bool false) ?_
        refine sp (.bool false) ?_
        refine s_nil ?_
        exact xs_cut () trivial (sub_of rfl ⟨⟨rfl, show Value.bool false = Value.bool ((decide ((1 : Int) ≤ (v.str.size : Int))) && ((decide ((v.str.size : Int) ≤ 4096)) && (decide (v = (⟨6, 0, 0, v.str, 0⟩ : Vl))))) by first | (simp only [c28, bls]; done) | simp [c28]⟩, trivial⟩) (fun _ h => h.re [0] [])
      ·
       refine k_ret <| xs_retBlock ?_
       refine xs_ret <| xs_fin [.bool ((decide ((1 : Int) ≤ (v.str.size : Int))) && ((decide ((v.str.size : Int) ≤ 4096)) && (decide (v = (⟨6, 0, 0, v.str, 0⟩ : Vl)))))] [] (SI.tmp 2 SI.nil) (fun _ h => h.re [] [0]) ⟨?_, rfl⟩
       refine congrArg Value.bool ?_
       first | (simp [validB, p4, p13, p19, p25, p27]; done) | (rw [Bool.and_comm]; simp [validB, p4, p13, p19, p25, p27]; done) | (rw [Bool.eq_iff_iff]; simp [validB, p4, p13, p19, p25, p27, and_comm, and_left_comm, and_assoc]; done)
     ·
      have p34 := of_decide_eq_false c26
      refine k_seq <| k_sr <| s_lt t_cmp ?_
      refine sp (.bool (decide (v.kind = 4))) ?_
      refine s_nt <| k_cond (decide (v.kind = 4)) (fun c35 => ?_) (fun c35 => ?_)
      ·
       have p36 := of_decide_eq_true c35
       refine k_st <| k_true (hv := congrArg Value.bool c35) ?_
       refine k_cut (ι := Unit) (fun _ => True) (fun _ => [(2, .bool ((decide (v = (⟨v.kind, 0, 0, eb, v.ref⟩ : Vl))) && (decide ((1 : Int) ≤ v.ref))))]) (fun _ => [blkA g1 (vc v) 71]) ?_ (fun _ _ => ?_)
       ·
        refine k_reg ?_
        refine s_lt (t_loadA 0 (vc v)) ?_
        refine sp (pB g1 0) ?_
        refine s_lt (t_load 0 (iw v.kind)) ?_
        refine sp (pB g1 4) ?_
        refine s_lt (t_load 0 (iw v.ref)) ?_
        refine s_lt (t_kern (.agg #[iw v.kind, iw 0, iw 0, sw eb, iw v.ref])) ?_
        refine s_lt (t_eqS (fun w => (eqVlT v (⟨v.kind, 0, 0, eb, v.ref⟩ : Vl) w).1)) ?_
        refine sp (.bool (decide (v = (⟨v.kind, 0, 0, eb, v.ref⟩ : Vl)))) ?_
        refine s_fork 83 (decide (v = (⟨v.kind, 0, 0, eb, v.ref⟩ : Vl))) (fun c37 => ?_) (fun c37 => ?_)
        ·
         have p38 := of_decide_eq_true c37
         refine sp (pB g1 4) ?_
         refine s_lt (t_load 0 (iw v.ref)) ?_
         refine s_lt t_cmp ?_
         refine sp (.bool (decide ((1 : Int) ≤ v.ref))) ?_
         refine sp (.bool (decide ((1 : Int) ≤ v.ref))) ?_
         refine s_nil ?_
         exact xs_cut () trivial (sub_of rfl ⟨⟨rfl, show Value.bool (decide ((1 : Int) ≤ v.ref)) = Value.bool ((decide (v = (⟨v.kind, 0, 0, eb, v.ref⟩ : Vl))) && (decide ((1 : Int) ≤ v.ref))) by first | (simp only [c37, bls]; done) | simp [c37]⟩, trivial⟩) (fun _ h => h.re [0] [])
        ·
         have p39 := of_decide_eq_false c37
         refine s_skip ?_
         refine s_skip ?_
         refine s_skip ?_
         refine sp (.bool false) ?_
         refine sp (.bool false) ?_
         refine s_nil ?_
         exact xs_cut () trivial (sub_of rfl ⟨⟨rfl, show Value.bool false = Value.bool ((decide (v = (⟨v.kind, 0, 0, eb, v.ref⟩ : Vl))) && (decide ((1 : Int) ≤ v.ref))) by first | (simp only [c37, bls]; done) | simp [c37]⟩, trivial⟩) (fun _ h => h.re [0] [])
       ·
        refine k_ret <| xs_retBlock ?_
        refine xs_ret <| xs_fin [.bool ((decide (v = (⟨v.kind, 0, 0, eb, v.ref⟩ : Vl))) && (decide ((1 : Int) ≤ v.ref)))] [] (SI.tmp 2 SI.nil) (fun _ h => h.re [] [0]) ⟨?_, rfl⟩
        refine congrArg Value.bool ?_
        first | (simp [validB, p4, p13, p19, p25, p34, p36]; done) | (rw [Bool.and_comm]; simp [validB, p4, p13, p19, p25, p34, p36]; done) | (rw [Bool.eq_iff_iff]; simp [validB, p4, p13, p19, p25, p34, p36, and_comm, and_left_comm, and_assoc]; done)
      ·
       have p40 := of_decide_eq_false c35
       refine k_sr <| s_lt t_cmp ?_
       refine sp (.bool (decide (v.kind = 5))) ?_
       refine s_nt <| k_cond (decide (v.kind = 5)) (fun c41 => ?_) (fun c41 => ?_)
       ·
        have p42 := of_decide_eq_true c41
        refine k_st <| k_true (hv := congrArg Value.bool c41) ?_
        refine k_cut (ι := Unit) (fun _ => True) (fun _ => [(2, .bool ((decide (v = (⟨v.kind, 0, 0, eb, v.ref⟩ : Vl))) && (decide ((1 : Int) ≤ v.ref))))]) (fun _ => [blkA g1 (vc v) 71]) ?_ (fun _ _ => ?_)
        ·
         refine k_reg ?_
         refine s_lt (t_loadA 0 (vc v)) ?_
         refine sp (pB g1 0) ?_
         refine s_lt (t_load 0 (iw v.kind)) ?_
         refine sp (pB g1 4) ?_
         refine s_lt (t_load 0 (iw v.ref)) ?_
         refine s_lt (t_kern (.agg #[iw v.kind, iw 0, iw 0, sw eb, iw v.ref])) ?_
         refine s_lt (t_eqS (fun w => (eqVlT v (⟨v.kind, 0, 0, eb, v.ref⟩ : Vl) w).1)) ?_
         refine sp (.bool (decide (v = (⟨v.kind, 0, 0, eb, v.ref⟩ : Vl)))) ?_
         refine s_fork 83 (decide (v = (⟨v.kind, 0, 0, eb, v.ref⟩ : Vl))) (fun c43 => ?_) (fun c43 => ?_)
         ·
          have p44 := of_decide_eq_true c43
          refine sp (pB g1 4) ?_
          refine s_lt (t_load 0 (iw v.ref)) ?_
          refine s_lt t_cmp ?_
          refine sp (.bool (decide ((1 : Int) ≤ v.ref))) ?_
          refine sp (.bool (decide ((1 : Int) ≤ v.ref))) ?_
          refine s_nil ?_
          exact xs_cut () trivial (sub_of rfl ⟨⟨rfl, show Value.bool (decide ((1 : Int) ≤ v.ref)) = Value.bool ((decide (v = (⟨v.kind, 0, 0, eb, v.ref⟩ : Vl))) && (decide ((1 : Int) ≤ v.ref))) by first | (simp only [c43, bls]; done) | simp [c43]⟩, trivial⟩) (fun _ h => h.re [0] [])
         ·
          have p45 := of_decide_eq_false c43
          refine s_skip ?_
          refine s_skip ?_
          refine s_skip ?_
          refine sp (.bool false) ?_
          refine sp (.bool false) ?_
          refine s_nil ?_
          exact xs_cut () trivial (sub_of rfl ⟨⟨rfl, show Value.bool false = Value.bool ((decide (v = (⟨v.kind, 0, 0, eb, v.ref⟩ : Vl))) && (decide ((1 : Int) ≤ v.ref))) by first | (simp only [c43, bls]; done) | simp [c43]⟩, trivial⟩) (fun _ h => h.re [0] [])
        ·
         refine k_ret <| xs_retBlock ?_
         refine xs_ret <| xs_fin [.bool ((decide (v = (⟨v.kind, 0, 0, eb, v.ref⟩ : Vl))) && (decide ((1 : Int) ≤ v.ref)))] [] (SI.tmp 2 SI.nil) (fun _ h => h.re [] [0]) ⟨?_, rfl⟩
         refine congrArg Value.bool ?_
         first | (simp [validB, p4, p13, p19, p25, p34, p40, p42]; done) | (rw [Bool.and_comm]; simp [validB, p4, p13, p19, p25, p34, p40, p42]; done) | (rw [Bool.eq_iff_iff]; simp [validB, p4, p13, p19, p25, p34, p40, p42, and_comm, and_left_comm, and_assoc]; done)
       ·
        have p46 := of_decide_eq_false c41
        refine k_sr <| s_lt t_cmp ?_
        refine sp (.bool (decide (v.kind = 7))) ?_
        refine s_nt <| k_cond (decide (v.kind = 7)) (fun c47 => ?_) (fun c47 => ?_)
        ·
         have p48 := of_decide_eq_true c47
         refine k_st <| k_true (hv := congrArg Value.bool c47) ?_
         refine k_cut (ι := Unit) (fun _ => True) (fun _ => [(2, .bool ((decide (v = (⟨v.kind, 0, 0, eb, v.ref⟩ : Vl))) && (decide ((1 : Int) ≤ v.ref))))]) (fun _ => [blkA g1 (vc v) 71]) ?_ (fun _ _ => ?_)
         ·
          refine k_reg ?_
          refine s_lt (t_loadA 0 (vc v)) ?_
          refine sp (pB g1 0) ?_
          refine s_lt (t_load 0 (iw v.kind)) ?_
          refine sp (pB g1 4) ?_
          refine s_lt (t_load 0 (iw v.ref)) ?_
          refine s_lt (t_kern (.agg #[iw v.kind, iw 0, iw 0, sw eb, iw v.ref])) ?_
          refine s_lt (t_eqS (fun w => (eqVlT v (⟨v.kind, 0, 0, eb, v.ref⟩ : Vl) w).1)) ?_
          refine sp (.bool (decide (v = (⟨v.kind, 0, 0, eb, v.ref⟩ : Vl)))) ?_
          refine s_fork 83 (decide (v = (⟨v.kind, 0, 0, eb, v.ref⟩ : Vl))) (fun c49 => ?_) (fun c49 => ?_)
          ·
           have p50 := of_decide_eq_true c49
           refine sp (pB g1 4) ?_
           refine s_lt (t_load 0 (iw v.ref)) ?_
           refine s_lt t_cmp ?_
           refine sp (.bool (decide ((1 : Int) ≤ v.ref))) ?_
           refine sp (.bool (decide ((1 : Int) ≤ v.ref))) ?_
           refine s_nil ?_
           exact xs_cut () trivial (sub_of rfl ⟨⟨rfl, show Value.bool (decide ((1 : Int) ≤ v.ref)) = Value.bool ((decide (v = (⟨v.kind, 0, 0, eb, v.ref⟩ : Vl))) && (decide ((1 : Int) ≤ v.ref))) by first | (simp only [c49, bls]; done) | simp [c49]⟩, trivial⟩) (fun _ h => h.re [0] [])
          ·
           have p51 := of_decide_eq_false c49
           refine s_skip ?_
           refine s_skip ?_
           refine s_skip ?_
           refine sp (.bool false) ?_
           refine sp (.bool false) ?_
           refine s_nil ?_
           exact xs_cut () trivial (sub_of rfl ⟨⟨rfl, show Value.bool false = Value.bool ((decide (v = (⟨v.kind, 0, 0, eb, v.ref⟩ : Vl))) && (decide ((1 : Int) ≤ v.ref))) by first | (simp only [c49, bls]; done) | simp [c49]⟩, trivial⟩) (fun _ h => h.re [0] [])
         ·
          refine k_ret <| xs_retBlock ?_
          refine xs_ret <| xs_fin [.bool ((decide (v = (⟨v.kind, 0, 0, eb, v.ref⟩ : Vl))) && (decide ((1 : Int) ≤ v.ref)))] [] (SI.tmp 2 SI.nil) (fun _ h => h.re [] [0]) ⟨?_, rfl⟩
          refine congrArg Value.bool ?_
          first | (simp [validB, p4, p13, p19, p25, p34, p40, p46, p48]; done) | (rw [Bool.and_comm]; simp [validB, p4, p13, p19, p25, p34, p40, p46, p48]; done) | (rw [Bool.eq_iff_iff]; simp [validB, p4, p13, p19, p25, p34, p40, p46, p48, and_comm, and_left_comm, and_assoc]; done)
        ·
         have p52 := of_decide_eq_false c47
         refine k_reg ?_
         refine s_lt t_cmp ?_
         refine sp (.bool (decide (v.kind = 8))) ?_
         refine s_nt <| k_cond (decide (v.kind = 8)) (fun c53 => ?_) (fun c53 => ?_)
         ·
          have p54 := of_decide_eq_true c53
          refine k_cut (ι := Unit) (fun _ => True) (fun _ => [(2, .bool ((decide (v = (⟨v.kind, 0, 0, eb, v.ref⟩ : Vl))) && (decide ((1 : Int) ≤ v.ref))))]) (fun _ => [blkA g1 (vc v) 71]) ?_ (fun _ _ => ?_)
          ·
           refine k_reg ?_
           refine s_lt (t_loadA 0 (vc v)) ?_
           refine sp (pB g1 0) ?_
           refine s_lt (t_load 0 (iw v.kind)) ?_
           refine sp (pB g1 4) ?_
           refine s_lt (t_load 0 (iw v.ref)) ?_
           refine s_lt (t_kern (.agg #[iw v.kind, iw 0, iw 0, sw eb, iw v.ref])) ?_
           refine s_lt (t_eqS (fun w => (eqVlT v (⟨v.kind, 0, 0, eb, v.ref⟩ : Vl) w).1)) ?_
           refine sp (.bool (decide (v = (⟨v.kind, 0, 0, eb, v.ref⟩ : Vl)))) ?_
           refine s_fork 83 (decide (v = (⟨v.kind, 0, 0, eb, v.ref⟩ : Vl))) (fun c55 => ?_) (fun c55 => ?_)
           ·
            have p56 := of_decide_eq_true c55
            refine sp (pB g1 4) ?_
            refine s_lt (t_load 0 (iw v.ref)) ?_
            refine s_lt t_cmp ?_
            refine sp (.bool (decide ((1 : Int) ≤ v.ref))) ?_
            refine sp (.bool (decide ((1 : Int) ≤ v.ref))) ?_
            refine s_nil ?_
            exact xs_cut () trivial (sub_of rfl ⟨⟨rfl, show Value.bool (decide ((1 : Int) ≤ v.ref)) = Value.bool ((decide (v = (⟨v.kind, 0, 0, eb, v.ref⟩ : Vl))) && (decide ((1 : Int) ≤ v.ref))) by first | (simp only [c55, bls]; done) | simp [c55]⟩, trivial⟩) (fun _ h => h.re [0] [])
           ·
            have p57 := of_decide_eq_false c55
            refine s_skip ?_
            refine s_skip ?_
            refine s_skip ?_
            refine sp (.bool false) ?_
            refine sp (.bool false) ?_
            refine s_nil ?_
            exact xs_cut () trivial (sub_of rfl ⟨⟨rfl, show Value.bool false = Value.bool ((decide (v = (⟨v.kind, 0, 0, eb, v.ref⟩ : Vl))) && (decide ((1 : Int) ≤ v.ref))) by first | (simp only [c55, bls]; done) | simp [c55]⟩, trivial⟩) (fun _ h => h.re [0] [])
          ·
           refine k_ret <| xs_retBlock ?_
           refine xs_ret <| xs_fin [.bool ((decide (v = (⟨v.kind, 0, 0, eb, v.ref⟩ : Vl))) && (decide ((1 : Int) ≤ v.ref)))] [] (SI.tmp 2 SI.nil) (fun _ h => h.re [] [0]) ⟨?_, rfl⟩
           refine congrArg Value.bool ?_
           first | (simp [validB, p4, p13, p19, p25, p34, p40, p46, p52, p54]; done) | (rw [Bool.and_comm]; simp [validB, p4, p13, p19, p25, p34, p40, p46, p52, p54]; done) | (rw [Bool.eq_iff_iff]; simp [validB, p4, p13, p19, p25, p34, p40, p46, p52, p54, and_comm, and_left_comm, and_assoc]; done)
         ·
          have p58 := of_decide_eq_false c53
          refine k_skip ?_
          refine xs_block ?_
          refine xs_then <| k_sr <| sp (.bool false) ?_
          refine s_nt <| k_ret <| xs_fin [.bool false] [] (SI.tmp 2 SI.nil) (fun _ h => h.re [] [0]) ⟨?_, rfl⟩
          refine congrArg Value.bool ?_
          first | (simp [validB, p4, p13, p19, p25, p34, p40, p46, p52, p58]; done) | (rw [Bool.and_comm]; simp [validB, p4, p13, p19, p25, p34, p40, p46, p52, p58]; done) | (rw [Bool.eq_iff_iff]; simp [validB, p4, p13, p19, p25, p34, p40, p46, p52, p58, and_comm, and_left_comm, and_assoc]; done)
def omA (b : Nat) (S : List Slt) : Asr := exA fun sv => exA fun mb => exA fun m => stA (OInv S ∧ Agr m S) [blkA b #[sv, .map (some mb), iw (cnt S : Int)] 225, own SltT sv S, mpA vK nV mb m]
theorem om_open {b : Nat} {S : List Slt} {Z : Zone} {F : List Asr} {H : Heap} (h : Holds Z (omA b S :: F) H) : ∃ (sv : Value) (mb : Nat) (m : List (Vl × Nat)), (OInv S ∧ Agr m S) ∧ Holds Z (blkA b #[sv, .map (some mb), iw (cnt S : Int)] 225 :: own SltT sv S :: mpA vK nV mb m :: F) H := by
  obtain ⟨sv, h⟩ := h.open_ex
  obtain ⟨mb, h⟩ := h.open_ex
  obtain ⟨m, h⟩ := h.open_ex
  exact ⟨sv, mb, m, h.open_st⟩
theorem om_shut {b : Nat} {S : List Slt} {Z : Zone} {F : List Asr} {H : Heap} {sv : Value} {mb : Nat} {m : List (Vl × Nat)} {n : Int} (hp : (OInv S ∧ Agr m S) ∧ n = (cnt S : Int)) (h : Holds Z (blkA b #[sv, .map (some mb), iw n] 225 :: own SltT sv S :: mpA vK nV mb m :: F) H) : Holds Z (omA b S :: F) H := by
  obtain ⟨h1, rfl⟩ := hp
  exact Holds.shut_ex sv (Holds.shut_ex mb (Holds.shut_ex m (Holds.shut_st h1 h)))
theorem om_inv {b : Nat} {S : List Slt} {Z : Zone} {F : List Asr} {H : Heap} (h : Holds Z (omA b S :: F) H) : OInv S := by
  obtain ⟨_, _, _, h, _⟩ := om_open h; exact h.1
theorem omnew_s {Z : Zone} : SF Tryz.prog 136 #[] Z [] fun r Bs => ∃ b, r = .pointer (some ⟨b, 0, none⟩) ∧ Bs = [omA b []] := by
 refine sf_enter Tryz.func136 4 [] (fun w0 => ?_)
 refine k_sr <| sp (.pointer none) ?_
 refine s_nr ?_
 refine s_makeMap vK nV (fun b1 => ?_)
 refine s_lt (t_kern (.agg #[(.slice none 0 0), .map (some b1), iw 0])) ?_
 refine s_box #[(.slice none 0 0), .map (some b1), iw 0] (fun g2 => ?_)
 refine sp (pB g2 0) ?_
 refine s_nt <| k_ret <| xs_fin [pB g2 0] [omA g2 []] (SI.tmp 0 SI.nil) (fun _ h => om_shut (b := g2) (sv := .slice none 0 0) ⟨⟨OInv.nil, agr_nil⟩, rfl⟩ ((Holds.nilS (T := SltT) h).re [1, 0] [])) ⟨g2, rfl, rfl⟩
theorem omget_s {Z : Zone} {F : List Asr} {b : Nat} {S : List Slt} (k : Vl) : SF Tryz.prog 234 #[.pointer (some ⟨b, 0, none⟩), k.v] Z (omA b S :: F) fun r Bs => r = (oget S k).v ∧ Bs = omA b S :: F := by
 refine sf_enter Tryz.func234 30 [(0, pB b 0), (1, .agg (vc k))] (fun w0 => ?_)
 refine k_sr <| s_box (vc k) (fun g1 => ?_)
 refine s_alloc (.agg zc) zc (fun g2 => ?_)
 refine s_nt <| k_seq <| k_sr <| sp (pB b 0) ?_
 refine sp (.bool false) ?_
 refine s_nt <| k_false ?_
 refine k_st <| k_seq <| k_draw ?_
 refine sp (pB b 0) ?_
 refine sp (pB b 0) ?_
 refine sp (pB b 1) ?_
 refine s_mem3 (fun H h => om_open (h.re [2] [])) (fun sv3 mb4 m5 hw => ?_)
 obtain ⟨hinv6, hag7⟩ := hw
 refine s_lt (t_load 0 (.map (some mb4))) ?_
 refine s_lt (t_loadA 4 (vc k)) ?_
 rcases last_cases hag7 hinv6 k with ⟨hl8, hm9, ht10, hg11⟩ | ⟨i12, s13, hl14, hm15, hs16, hk17, hg18, ht19⟩
 ·
  refine s_lt (Lt.to (v' := .tuple #[iw 0, .bool false]) (t_lookupOk 2 vK_ok Tryz.underlying222 (iw 0) k) (by rw [hm9]; rfl)) ?_
  refine sp (.tuple #[iw 0, .bool false]) ?_
  refine sp (iw 0) ?_
  refine sp (.bool false) ?_
  refine sp (iw 0) ?_
  refine sp (.bool false) ?_
  refine s_nil <| x_dynS (fun _ h => by kernel_rfl) ?_
  refine xs_then <| k_seq <| k_sr <| sp (.bool false) ?_
  refine sp (.bool true) ?_
  refine s_nt <| k_true ?_
  refine k_sr <| s_lt (t_kern (.agg zc)) ?_
  refine s_store 3 zc ?_
  refine s_nt <| k_ret <| xs_ret <| xs_mem (fun _ h => om_shut (S := S) (n := (cnt S : Int)) ⟨⟨hinv6, hag7⟩, rfl⟩ (h.re [0, 0, 0] [])) ?_
  refine xs_fin [.agg zc] (omA b S :: F) (SI.agg 4 71 1 SI.nil) (fun _ h => h.re [0] [1, 1]) ⟨?_, rfl⟩
  exact (congrArg Vl.v hg11).symm
 ·
  have hlt20 : i12 < S.length := (List.getElem?_eq_some_iff.1 hs16).1
  refine s_lt (Lt.to (v' := .tuple #[iw (i12 : Int), .bool true]) (t_lookupOk 2 vK_ok Tryz.underlying222 (iw 0) k) (by rw [hm15]; rfl)) ?_
  refine sp (.tuple #[iw (i12 : Int), .bool true]) ?_
  refine sp (iw (i12 : Int)) ?_
  refine sp (.bool true) ?_
  refine sp (iw (i12 : Int)) ?_
  refine sp (.bool true) ?_
  refine s_nil <| x_dynS (fun _ h => by kernel_rfl) ?_
  refine xs_then <| k_seq <| k_sr <| sp (.bool true) ?_
  refine sp (.bool false) ?_
  refine s_nt <| k_false ?_
  refine k_st <| k_sr <| sp (pB b 0) ?_
  refine sp (pB b 0) ?_
  refine sp (pB b 0) ?_
  refine s_lt (t_load 0 sv3) ?_
  refine sp (iw (i12 : Int)) ?_
  refine s_lt (t_index SltT_ok Tryz.underlying223 (.own 1) (i12 : Int) i12 (by omega) (by (try simp only [lnm]); omega) (by omega)) ?_
  refine sp (.pointer (some ((elemAt SltT.size sv3 i12).add 5))) ?_
  refine s_lt (t_loadG 5 (vc s13.val) SltT_ok (.own 1) hs16) ?_
  refine s_store 3 (vc s13.val) ?_
  refine s_nt <| k_ret <| xs_mem (fun _ h => om_shut (S := S) (n := (cnt S : Int)) ⟨⟨hinv6, hag7⟩, rfl⟩ (h.re [0, 0, 0] [])) ?_
  refine xs_fin [.agg (vc s13.val)] (omA b S :: F) (SI.agg 4 71 1 SI.nil) (fun _ h => h.re [0] [1, 1]) ⟨?_, rfl⟩
  exact (congrArg Vl.v hg18).symm
theorem omdrop_s {Z : Zone} {F : List Asr} {b : Nat} {S : List Slt} (hs : S.length ≤ 1000000) : SF Tryz.prog 236 #[.pointer (some ⟨b, 0, none⟩)] Z (omA b S :: F) fun r Bs => r = .tuple #[] ∧ Bs = omA b (live S) :: F := by
 refine sf_enter Tryz.func236 49 [(0, pB b 0)] (fun w0 => ?_)
 refine k_sr <| sp (.slice none 0 0) ?_
 refine s_nt <| k_seq <| k_sr <| sp (pB b 0) ?_
 refine sp (pB b 0) ?_
 refine sp (pB b 0) ?_
 refine s_mem3 (fun H h => om_open (h.re [0] [])) (fun sv1 mb2 m3 hw => ?_)
 obtain ⟨hinv4, hag5⟩ := hw
 refine s_lt (t_load 0 sv1) ?_
 refine s_lt (t_len SltT_ok Tryz.underlying223 (.own 1)) ?_
 refine sp (iw 0) ?_
 refine s_nt <| k_block ?_
 refine k_mem (fun _ h => Holds.nilS (T := SltT) h) ?_
 refine k_mem (Bs := own SltT (.slice none 0 0) (live (S.take 0)) :: blkA b #[sv1, .map (some mb2), iw (cnt S : Int)] 225 :: own SltT sv1 S :: mpA vK nV mb2 m3 :: F) (fun _ h => h) ?_
 have hinv0 := hinv4
 have hag0 := hag5
 refine k_loop (ι := Value × List (Vl × Nat) × Nat) (fun (lx, md, i) => i ≤ S.length ∧ DropI S i md) (fun (lx, md, i) => [(0, pB b 0), (2, lx), (8, sv1), (9, iw (S.length : Int)), (10, iw (i : Int))]) (fun (lx, md, i) => own SltT lx (live (S.take i)) :: blkA b #[sv1, .map (some mb2), iw (cnt S : Int)] 225 :: own SltT sv1 S :: mpA vK nV mb2 md :: F) (fun (lx, md, i) => S.length - i) ((.slice none 0 0), m3, 0) ⟨Nat.zero_le _, drop0 hag0⟩ (sub_of rfl ⟨⟨rfl, rfl⟩, ⟨⟨rfl, rfl⟩, ⟨⟨rfl, rfl⟩, ⟨⟨rfl, rfl⟩, ⟨⟨rfl, rfl⟩, trivial⟩⟩⟩⟩⟩) (fun _ h => h.re [0, 0, 0, 0] []) ?_
 rintro ⟨lx, md, i⟩ hi6
 replace hi6 : i ≤ S.length ∧ DropI S i md := hi6
 show SK _ _ _ _ _ [(0, .pointer (some ⟨b, 0, none⟩)), (2, lx), (8, sv1), (9, iw (S.length : Int)), (10, iw (i : Int))] _ (own SltT lx (live (S.take i)) :: blkA b #[sv1, .map (some mb2), iw (cnt S : Int)] 225 :: own SltT sv1 S :: mpA vK nV mb2 md :: F)
 refine k_fact (fun H h => (h.mp (i := 3) rfl).nodup) (fun hnd => ?_)
 have hli : (live (S.take i)).length ≤ i := Nat.le_trans (cnt_le _) (by rw [List.length_take]; omega)
 refine k_sr <| s_lt t_cmp ?_
 refine s_nt <| k_seq <| k_cond (decide ((i : Int) < (S.length : Int))) (fun c7 => ?_) (fun c7 => ?_)
 ·
  have p8 := of_decide_eq_true c7
  refine k_st <| k_seq <| k_block ?_
  refine k_sr <| sp (iw (i : Int)) ?_
  refine s_lt (t_index SltT_ok Tryz.underlying223 (.own 2) (i : Int) i (by omega) (by (try simp only [lnm]); omega) (by omega)) ?_
  obtain ⟨y9, hy10⟩ : ∃ y, S[i]? = some y := ⟨_, List.getElem?_eq_getElem (by (try simp only [lnm]); omega)⟩
  refine s_lt (t_loadE SltT_ok (.own 2) hy10) ?_
  refine s_alloc (.agg #[iw 0, iw 0, iw 0, sw eb, iw 0, iw 0, iw 0, iw 0, sw eb, iw 0, .bool false]) #[iw 0, iw 0, iw 0, sw eb, iw 0, iw 0, iw 0, iw 0, sw eb, iw 0, .bool false] (fun g11 => ?_)
  refine sp (iw (i : Int)) ?_
  refine s_store 0 #[iw y9.key.kind, iw y9.key.p, iw y9.key.q, sw y9.key.str, iw y9.key.ref, iw y9.val.kind, iw y9.val.p, iw y9.val.q, sw y9.val.str, iw y9.val.ref, .bool y9.gone] ?_
  refine s_nt <| k_seq <| k_sr <| sp (pB g11 10) ?_
  refine s_lt (t_load 0 (.bool y9.gone)) ?_
  refine s_nt <| k_cond y9.gone (fun c12 => ?_) (fun c12 => ?_)
  ·
   refine k_seq <| k_seq <| k_draw ?_
   refine sp (pB b 0) ?_
   refine sp (pB b 0) ?_
   refine sp (pB b 1) ?_
   refine s_lt (t_load 2 (.map (some mb2))) ?_
   refine sp (pB g11 0) ?_
   refine s_lt (t_loadA 0 (vc y9.key)) ?_
   obtain ⟨j13, hj14, hd15⟩ := drop_gone hinv0 hi6.2 hy10 c12
   refine s_lt (Lt.to (v' := iw (j13 : Int)) (t_lookup 4 vK_ok Tryz.underlying222 (iw 0) y9.key) (by rw [hj14]; rfl)) ?_
   refine sp (iw (i : Int)) ?_
   refine s_lt t_cmp ?_
   refine s_nil <| x_dynS (fun _ h => by kernel_rfl) ?_
   refine xs_then <| k_cond (decide ((j13 : Int) = (i : Int))) (fun c16 => ?_) (fun c16 => ?_)
   ·
    have p17 := of_decide_eq_true c16
    refine k_draw ?_
    refine sp (pB b 0) ?_
    refine sp (pB b 0) ?_
    refine sp (pB b 1) ?_
    refine s_lt (t_load 2 (.map (some mb2))) ?_
    refine sp (pB g11 0) ?_
    refine s_lt (t_loadA 0 (vc y9.key)) ?_
    refine s_delete0 4 vK_ok Tryz.underlying222 y9.key ?_
    refine s_nil <| x_dynS (fun _ h => by kernel_rfl) ?_
    refine xs_then <| k_exit ?_
    refine xs_exit ?_
    refine xs_here ?_
    refine xs_then <| k_reg ?_
    refine s_lt (t_add (i : Int) 1 (by (try simp only [lnm]); omega)) ?_
    refine sp (iw ((i : Int) + 1)) ?_
    refine s_nil ?_
    have hlv := live_take hy10
    rw [if_pos c12] at hlv
    rw [← hlv]
    exact xs_round (lx, (adel md y9.key), i + 1) (by show S.length - (i + 1) < S.length - i; omega) ⟨by show i + 1 ≤ S.length; omega, by first | exact hd15.2.2 (Int.ofNat_inj.1 p17) hnd | (obtain ⟨_, hd1, hd2⟩ := (⟨trivial, hd15⟩ : True ∧ _ ∧ _); first | exact hd1 (fun e => p17 (by rw [e])) | exact hd2 (Int.ofNat_inj.1 p17) hnd)⟩ (sub_of rfl ⟨⟨rfl, rfl⟩, ⟨⟨rfl, rfl⟩, ⟨⟨rfl, rfl⟩, ⟨⟨rfl, rfl⟩, ⟨⟨rfl, rfl⟩, trivial⟩⟩⟩⟩⟩) (fun _ h => h.re [1, 1, 1, 1] [4])
   ·
    have p18 := of_decide_eq_false c16
    refine k_st <| k_exit ?_
    refine xs_exit ?_
    refine xs_here ?_
    refine xs_then <| k_reg ?_
    refine s_lt (t_add (i : Int) 1 (by (try simp only [lnm]); omega)) ?_
    refine sp (iw ((i : Int) + 1)) ?_
    refine s_nil ?_
    have hlv := live_take hy10
    rw [if_pos c12] at hlv
    rw [← hlv]
    exact xs_round (lx, md, i + 1) (by show S.length - (i + 1) < S.length - i; omega) ⟨by show i + 1 ≤ S.length; omega, by first | exact hd15.2.1 (by intro e; exact p18 (congrArg _ e)) | (obtain ⟨_, hd1, hd2⟩ := (⟨trivial, hd15⟩ : True ∧ _ ∧ _); first | exact hd1 (fun e => p18 (by rw [e])) | exact hd2 (Int.ofNat_inj.1 p18) hnd)⟩ (sub_of rfl ⟨⟨rfl, rfl⟩, ⟨⟨rfl, rfl⟩, ⟨⟨rfl, rfl⟩, ⟨⟨rfl, rfl⟩, ⟨⟨rfl, rfl⟩, trivial⟩⟩⟩⟩⟩) (fun _ h => h.re [1, 1, 1, 1] [4])
  ·
   refine k_st <| k_seq <| k_draw ?_
   refine sp (pB b 0) ?_
   refine sp (pB b 0) ?_
   refine sp (pB b 1) ?_
   refine s_lt (t_load 2 (.map (some mb2))) ?_
   refine sp (pB g11 0) ?_
   refine s_lt (t_loadA 0 (vc y9.key)) ?_
   refine sp lx ?_
   refine s_fact (fun H h => ((Acc.own (T := SltT) (L := (live (S.take i))) 1 rfl) H h).form) (fun hf19 => ?_)
   refine s_lt (t_len SltT_ok Tryz.underlying223 (.own 1)) ?_
   refine s_update 4 vK_ok Tryz.underlying222 y9.key ((live (S.take i)).length) ?_
   refine s_nil <| x_dynS (fun _ h => by obtain ⟨_, _, e⟩ := hf19; subst e; kernel_rfl) ?_
   refine xs_then <| k_reg ?_
   refine sp lx ?_
   refine s_lt (t_loadA 0 #[iw y9.key.kind, iw y9.key.p, iw y9.key.q, sw y9.key.str, iw y9.key.ref, iw y9.val.kind, iw y9.val.p, iw y9.val.q, sw y9.val.str, iw y9.val.ref, .bool y9.gone]) ?_
   refine s_buildSlice (e := 261) [(0, .agg #[iw y9.key.kind, iw y9.key.p, iw y9.key.q, sw y9.key.str, iw y9.key.ref, iw y9.val.kind, iw y9.val.p, iw y9.val.q, sw y9.val.str, iw y9.val.ref, .bool y9.gone])] #[iw y9.key.kind, iw y9.key.p, iw y9.key.q, sw y9.key.str, iw y9.key.ref, iw y9.val.kind, iw y9.val.p, iw y9.val.q, sw y9.val.str, iw y9.val.ref, .bool y9.gone] (fun g20 => ?_) (hb := by kernel_rfl)
   refine s_append (L := (live (S.take i))) 2 SltT_ok Tryz.underlying223 (.lit 0 SltT_ok [y9]) (by show _ * 104 ≤ _; (try simp only [lnm]); omega) (by (try simp only [lnm]); omega) (fun v21 => ?_)
   refine sp v21 ?_
   refine s_nil <| xs_block ?_
   refine xs_then <| k_reg ?_
   refine s_lt (t_add (i : Int) 1 (by (try simp only [lnm]); omega)) ?_
   refine sp (iw ((i : Int) + 1)) ?_
   refine s_nil ?_
   have hlv := live_take hy10
   rw [if_neg (by rw [c12]; decide)] at hlv
   rw [← hlv]
   exact xs_round (v21, (aset md y9.key ((live (S.take i)).length)), i + 1) (by show S.length - (i + 1) < S.length - i; omega) ⟨by show i + 1 ≤ S.length; omega, by first | exact drop_live hinv0 hi6.2 hy10 c12 | (obtain ⟨_, hd1, hd2⟩ := hlv; first | exact hd1 (fun e => c12 (by rw [e])) | exact hd2 (Int.ofNat_inj.1 c12) hnd)⟩ (sub_of rfl ⟨⟨rfl, rfl⟩, ⟨⟨rfl, rfl⟩, ⟨⟨rfl, rfl⟩, ⟨⟨rfl, rfl⟩, ⟨⟨rfl, rfl⟩, trivial⟩⟩⟩⟩⟩) (fun _ h => h.re [2, 2, 2, 2] [4, 4])
 ·
  have p22 := of_decide_eq_false c7
  refine k_exit ?_
  refine xs_exit ?_
  refine xs_exit ?_
  refine xs_here ?_
  refine xs_then <| k_reg ?_
  refine sp (pB b 0) ?_
  refine sp lx ?_
  refine sp (pB b 0) ?_
  refine sp (pB b 0) ?_
  refine s_fact (fun H h => ((Acc.own (T := SltT) (L := (live (S.take i))) 0 rfl) H h).form) (fun hf23 => ?_)
  refine s_store (u := lx) (m := 1) 1 #[lx, .map (some mb2), iw (cnt S : Int)] ?_ (hm := by (obtain ⟨_, _, e⟩ := hf23; rw [e]; rfl)) (h1 := by (obtain ⟨_, _, e⟩ := hf23; rw [e]; rfl)) (ha' := by (obtain ⟨_, _, e⟩ := hf23; rw [e]; rfl))
  refine s_nil ?_
  have hend : live (S.take i) = live S := by rw [List.take_of_length_le (by omega)]
  rw [hend]
  exact xs_finN [] (omA b (live S) :: F) SI.nil (fun _ h => om_shut ⟨⟨live_inv hinv0, drop_end hi6.2 (by omega)⟩, by rw [cnt_live]⟩ (h.re [1, 0, 1] [3])) ⟨rfl, rfl⟩
abbrev nextV (x : Vl × Vl × Bool × Int) : Value := .tuple #[x.1.v, x.2.1.v, .bool x.2.2.1, iw x.2.2.2]
theorem next_found {S : List Slt} {a j : Nat} {s : Slt} (h : live ((S.drop a).take j) = []) (hs : (S.drop a)[j]? = some s) (hg : s.gone = false) : slotV (live (S.drop a)).head? = (s.key, s.val, true) := by rw [head_live h hs hg]; rfl
theorem next_end {S : List Slt} {a j : Nat} (h : live ((S.drop a).take j) = []) (hj : (S.drop a).length ≤ j) : slotV (live (S.drop a)).head? = (zVl, zVl, false) := by rw [head_none h hj]; rfl
theorem okeys_step {S : List Slt} {i : Nat} {s : Slt} (h : S[i]? = some s) : okeys (S.take (i + 1)) = if s.gone then okeys (S.take i) else okeys (S.take i) ++ [s.key] := by
  unfold okeys; rw [live_take h]; split <;> simp
theorem okeys_len (S : List Slt) : (okeys S).length ≤ S.length := by unfold okeys; rw [List.length_map]; exact cnt_le S
theorem set_same {α : Type} {L : List α} {i : Nat} {x : α} (h : L[i]? = some x) : L.set i x = L := by
  obtain ⟨hi, e⟩ := List.getElem?_eq_some_iff.1 h
  rw [← e]; simp
theorem okKey_bad {k : Vl} (h : k.kind = 0 ∨ validB k = false) : okKey k = false := by unfold okKey; rcases h with h | h <;> simp [h]
theorem okKey_good {k : Vl} (h0 : decide (k.kind = 0) = false) (h : validB k = true) : okKey k = true := by unfold okKey; rw [h0, h]; rfl
theorem osetE_bad {k v : Vl} (h : okKey k = false) : osetE k v = 13 := by unfold osetE; rw [if_pos h]
theorem osetE_val {k v : Vl} (h : okKey k = true) (hv : validB v = false) : osetE k v = 2 := by unfold osetE; rw [if_neg (by rw [h]; decide), if_pos hv]
theorem osetE_ok {k v : Vl} (h : okKey k = true) (hv : validB v = true) : osetE k v = 0 := by unfold osetE; rw [if_neg (by rw [h]; decide), if_neg (by rw [hv]; decide)]
theorem omset_s {Z : Zone} {F : List Asr} {b : Nat} {S : List Slt} (hs : S.length ≤ 1000000) (k v : Vl) : SF Tryz.prog 195 #[.pointer (some ⟨b, 0, none⟩), k.v, v.v] Z (omA b S :: F) fun r Bs => r = iw (osetE k v) ∧ Bs = omA b (osetL S k v) :: F := by
 refine sf_enter Tryz.func195 130 [(0, pB b 0), (1, .agg (vc k)), (2, .agg (vc v))] (fun w0 => ?_)
 refine k_fact (fun H h => om_inv (h.re [0] [])) (fun hinv0 => ?_)
 have hcl0 := cnt_le S
 refine k_sr <| s_box (vc k) (fun g1 => ?_)
 refine s_box (vc v) (fun g2 => ?_)
 refine sp (iw 0) ?_
 refine s_nt <| k_seq <| k_block ?_
 refine k_sr <| sp (pB b 0) ?_
 refine sp (.bool false) ?_
 refine sp (.bool false) ?_
 refine s_nt <| k_false ?_
 refine k_cut (ι := Unit) (fun _ => True) (fun _ => [(0, pB b 0), (4, pB g1 0), (5, pB g2 0), (13, .bool ((decide (k.kind = 0)) || (!(validB k))))]) (fun _ => blkA g2 (vc v) 71 :: blkA g1 (vc k) 71 :: omA b S :: F) ?_ (fun _ _ => ?_)
 ·
  refine k_reg ?_
  refine sp (pB g1 0) ?_
  refine s_lt (t_load 1 (iw k.kind)) ?_
  refine s_lt t_cmp ?_
  refine sp (.bool (decide (k.kind = 0))) ?_
  refine s_fork 17 (decide (k.kind = 0)) (fun c3 => ?_) (fun c3 => ?_)
  ·
   have p4 := of_decide_eq_true c3
   refine s_skip ?_
   refine s_skip ?_
   refine s_skip ?_
   refine sp (.bool true) ?_
   refine sp (.bool true) ?_
   refine s_nil ?_
   exact xs_cut () trivial (sub_of rfl ⟨⟨rfl, rfl⟩, ⟨⟨rfl, rfl⟩, ⟨⟨rfl, rfl⟩, ⟨⟨rfl, show Value.bool true = Value.bool ((decide (k.kind = 0)) || (!(validB k))) by first | (simp only [c3, bls]; done) | simp [c3]⟩, trivial⟩⟩⟩⟩) (fun _ h => h.re [0, 0, 0] [])
  ·
   have p5 := of_decide_eq_false c3
   refine s_lt (t_loadA 1 (vc k)) ?_
   refine s_vcall (fun _ h => valid_s k) ?_
   rintro _ rfl
   refine sp (.bool (!(validB k))) ?_
   refine sp (.bool (!(validB k))) ?_
   refine sp (.bool (!(validB k))) ?_
   refine s_nil ?_
   exact xs_cut () trivial (sub_of rfl ⟨⟨rfl, rfl⟩, ⟨⟨rfl, rfl⟩, ⟨⟨rfl, rfl⟩, ⟨⟨rfl, show Value.bool (!(validB k)) = Value.bool ((decide (k.kind = 0)) || (!(validB k))) by first | (simp only [c3, bls]; done) | simp [c3]⟩, trivial⟩⟩⟩⟩) (fun _ h => h.re [0, 0, 0] [])
 ·
  refine k_cond ((decide (k.kind = 0)) || (!(validB k))) (fun c6 => ?_) (fun c6 => ?_)
  ·
   have p7 := c6
   simp only [Bool.and_eq_true, Bool.or_eq_true, Bool.and_eq_false_iff, Bool.or_eq_false_iff, Bool.not_eq_true', Bool.not_eq_false', decide_eq_true_eq, decide_eq_false_iff_not] at p7
   refine k_sr <| sp (iw 13) ?_
   refine s_nt <| k_ret <| xs_retBlock ?_
   refine xs_ret ?_
   have hk := okKey_bad p7
   refine xs_fin [iw 13] (omA b S :: F) (SI.tmp 6 SI.nil) (fun _ h => h.re [2] [1, 1]) ⟨congrArg (Value.int .i64) (osetE_bad hk).symm, ?_⟩
   rw [osetL_bad (v := v) (.inl hk)]
  ·
   obtain ⟨c8, c9⟩ := or_f c6
   have p10 := of_decide_eq_false c8
   have c11 := not_f c9
   refine k_sr <| s_lt (t_loadA 0 (vc v)) ?_
   refine s_vcall (fun _ h => valid_s v) ?_
   rintro _ rfl
   refine sp (.bool (!(validB v))) ?_
   refine sp (.bool (!(validB v))) ?_
   refine s_nt <| k_cond (!(validB v)) (fun c12 => ?_) (fun c12 => ?_)
   ·
    have c13 := not_t c12
    refine k_sr <| sp (iw 2) ?_
    refine s_nt <| k_ret <| xs_retBlock ?_
    refine xs_ret ?_
    have hk := okKey_good c8 c11
    refine xs_fin [iw 2] (omA b S :: F) (SI.tmp 6 SI.nil) (fun _ h => h.re [2] [1, 1]) ⟨congrArg (Value.int .i64) (osetE_val hk c13).symm, ?_⟩
    rw [osetL_bad (v := v) (.inr c13)]
   ·
    have c14 := not_f c12
    refine k_skip ?_
    refine xs_block ?_
    refine xs_then <| k_seq <| k_draw ?_
    refine sp (pB b 0) ?_
    refine sp (pB b 0) ?_
    refine sp (pB b 1) ?_
    refine s_mem3 (fun H h => om_open (h.re [2] [])) (fun sv15 mb16 m17 hw => ?_)
    obtain ⟨hinv18, hag19⟩ := hw
    refine s_lt (t_load 0 (.map (some mb16))) ?_
    refine s_lt (t_loadA 4 (vc k)) ?_
    rcases last_cases hag19 hinv18 k with ⟨hl20, hm21, ht22, hg23⟩ | ⟨i24, s25, hl26, hm27, hs28, hk29, hg30, ht31⟩
    ·
     refine s_lt (Lt.to (v' := .tuple #[iw 0, .bool false]) (t_lookupOk 2 vK_ok Tryz.underlying222 (iw 0) k) (by rw [hm21]; rfl)) ?_
     refine sp (.tuple #[iw 0, .bool false]) ?_
     refine sp (iw 0) ?_
     refine sp (.bool false) ?_
     refine sp (iw 0) ?_
     refine sp (.bool false) ?_
     refine s_nil <| x_dynS (fun _ h => by kernel_rfl) ?_
     refine xs_then <| k_sr <| sp (.bool false) ?_
     refine sp (.bool false) ?_
     refine s_skip ?_
     refine s_skip ?_
     refine s_skip ?_
     refine s_skip ?_
     refine s_skip ?_
     refine s_skip ?_
     refine s_skip ?_
     refine s_skip ?_
     refine s_skip ?_
     refine sp (.bool false) ?_
     refine sp (.bool false) ?_
     refine s_nt <| k_seq <| k_block ?_
     refine k_cut (ι := Unit) (fun _ => True) (fun _ => [(0, pB b 0), (4, pB g1 0), (5, pB g2 0), (7, iw 0), (9, .bool false), (94, .bool false)]) (fun _ => blkA b #[sv15, .map (some mb16), iw (cnt S : Int)] 225 :: own SltT sv15 S :: mpA vK nV mb16 m17 :: blkA g2 (vc v) 71 :: blkA g1 (vc k) 71 :: F) ?_ (fun _ _ => ?_)
     ·
      refine k_reg ?_
      refine sp (pB g2 0) ?_
      refine s_lt (t_load 3 (iw v.kind)) ?_
      refine s_lt t_cmp ?_
      refine sp (.bool (decide (v.kind = 0))) ?_
      refine s_fork 98 (decide (v.kind = 0)) (fun c32 => ?_) (fun c32 => ?_)
      ·
       have p33 := of_decide_eq_true c32
       refine sp (.bool false) ?_
       refine sp (.bool false) ?_
       refine sp (.bool false) ?_
       refine s_nil ?_
       exact xcut () (fun _ h => h.re [0, 0, 0, 0, 0] [])
      ·
       have p34 := of_decide_eq_false c32
       refine s_skip ?_
       refine sp (.bool false) ?_
       refine sp (.bool false) ?_
       refine s_nil ?_
       exact xcut () (fun _ h => h.re [0, 0, 0, 0, 0] [])
     ·
      refine k_false ?_
      refine k_sr <| sp (pB g2 0) ?_
      refine s_lt (t_load 3 (iw v.kind)) ?_
      refine s_lt t_cmp ?_
      refine sp (.bool (decide (v.kind = 0))) ?_
      refine s_nt <| k_cond (decide (v.kind = 0)) (fun c35 => ?_) (fun c35 => ?_)
      ·
       have p36 := of_decide_eq_true c35
       refine k_skip ?_
       refine xs_block ?_
       refine xs_then <| k_sr <| sp (iw 0) ?_
       refine s_nt <| k_ret ?_
       have hk := okKey_good c8 c11
       have hS : osetL S k v = S := by rw [osetL_rem hk c14 (of_decide_eq_true c35), ht22]
       have hinv1 : OInv S := by rw [← hS]; exact osetL_inv hinv0 k v
       refine xs_mem (fun _ h => om_shut (S := S) (n := (cnt S : Int)) ⟨⟨hinv1, hag19⟩, rfl⟩ (h.re [0, 0, 0] [])) ?_
       refine xs_fin [iw 0] (omA b S :: F) (SI.tmp 6 SI.nil) (fun _ h => h.re [0] [1, 1]) ⟨congrArg (Value.int .i64) (osetE_ok hk c14).symm, ?_⟩
       rw [hS]
      ·
       have p37 := of_decide_eq_false c35
       refine k_sr <| sp (.bool false) ?_
       refine sp (.bool false) ?_
       refine s_nt <| k_false ?_
       refine k_seq <| k_seq <| k_draw ?_
       refine sp (pB b 0) ?_
       refine sp (pB b 0) ?_
       refine sp (pB b 0) ?_
       refine s_lt (t_load 0 sv15) ?_
       refine s_fact (fun H h => ((Acc.own (T := SltT) (L := S) 1 rfl) H h).form) (fun hf38 => ?_)
       refine s_lt (t_len SltT_ok Tryz.underlying223 (.own 1)) ?_
       refine sp (pB b 0) ?_
       refine sp (pB b 0) ?_
       refine sp (pB b 2) ?_
       refine s_lt (t_load 0 (iw (cnt S : Int))) ?_
       refine s_lt (t_sub (S.length : Int) (cnt S : Int) (by (try simp only [lnm]); omega)) ?_
       refine sp (pB b 0) ?_
       refine sp (pB b 0) ?_
       refine sp (pB b 2) ?_
       refine s_lt (t_load 0 (iw (cnt S : Int))) ?_
       refine s_lt (t_add (cnt S : Int) 8 (by (try simp only [lnm]); omega)) ?_
       refine s_lt t_cmp ?_
       refine s_nil <| x_dynS (fun _ h => by obtain ⟨_, _, e⟩ := hf38; subst e; kernel_rfl) ?_
       refine xs_then <| k_cond (decide (((cnt S : Int) + 8) < ((S.length : Int) - (cnt S : Int)))) (fun c39 => ?_) (fun c39 => ?_)
       ·
        have p40 := of_decide_eq_true c39
        refine k_reg ?_
        refine sp (pB b 0) ?_
        refine s_mem (fun _ h => om_shut (S := S) (n := (cnt S : Int)) ⟨⟨hinv18, hag19⟩, rfl⟩ (h.re [0, 0, 0] [])) ?_
        refine s_call [0] (omdrop_s (S := S) (by omega)) ?_
        rintro _ _ ⟨rfl, rfl⟩
        have hll41 := cnt_le S
        have hll42 := cnt_live S
        have hll43 : (live S).length = cnt S := rfl
        refine s_nt <| k_seq <| k_draw ?_
        refine sp (pB b 0) ?_
        refine sp (pB b 0) ?_
        refine sp (pB b 1) ?_
        refine s_mem3 (fun H h => om_open (h.re [0] [])) (fun sv44 mb45 m46 hw => ?_)
        obtain ⟨hinv47, hag48⟩ := hw
        refine s_lt (t_load 0 (.map (some mb45))) ?_
        refine s_lt (t_loadA 4 (vc k)) ?_
        refine sp (pB b 0) ?_
        refine sp (pB b 0) ?_
        refine sp (pB b 0) ?_
        refine s_lt (t_load 0 sv44) ?_
        refine s_fact (fun H h => ((Acc.own (T := SltT) (L := (live S)) 1 rfl) H h).form) (fun hf49 => ?_)
        refine s_lt (t_len SltT_ok Tryz.underlying223 (.own 1)) ?_
        refine s_update 2 vK_ok Tryz.underlying222 k ((live S).length) ?_
        refine s_nil <| x_dynS (fun _ h => by obtain ⟨_, _, e⟩ := hf49; subst e; kernel_rfl) ?_
        refine xs_then <| k_seq <| k_draw ?_
        refine sp (pB b 0) ?_
        refine sp (pB b 0) ?_
        refine sp (pB b 0) ?_
        refine sp (pB b 0) ?_
        refine s_lt (t_load 0 sv44) ?_
        refine s_lt (t_loadA 4 (vc k)) ?_
        refine s_lt (t_loadA 3 (vc v)) ?_
        refine s_lt (t_kern (.agg #[iw k.kind, iw k.p, iw k.q, sw k.str, iw k.ref, iw v.kind, iw v.p, iw v.q, sw v.str, iw v.ref, .bool false])) ?_
        refine s_buildSlice (e := 261) [(0, .agg #[iw k.kind, iw k.p, iw k.q, sw k.str, iw k.ref, iw v.kind, iw v.p, iw v.q, sw v.str, iw v.ref, .bool false])] #[iw k.kind, iw k.p, iw k.q, sw k.str, iw k.ref, iw v.kind, iw v.p, iw v.q, sw v.str, iw v.ref, .bool false] (fun g50 => ?_) (hb := by kernel_rfl)
        refine s_append (L := (live S)) 2 SltT_ok Tryz.underlying223 (.lit 0 SltT_ok [(⟨k, v, false⟩ : Slt)]) (by show _ * 104 ≤ _; (try simp only [lnm]); omega) (by (try simp only [lnm]); omega) (fun v51 => ?_)
        refine sp (pB b 0) ?_
        refine sp (pB b 0) ?_
        refine s_fact (fun H h => ((Acc.own (T := SltT) (L := ((live S) ++ [(⟨k, v, false⟩ : Slt)])) 2 rfl) H h).form) (fun hf52 => ?_)
        refine s_store (u := v51) (m := 1) 1 #[v51, .map (some mb45), iw (cnt (live S) : Int)] ?_ (hm := by (obtain ⟨_, _, e⟩ := hf52; rw [e]; rfl)) (h1 := by (obtain ⟨_, _, e⟩ := hf52; rw [e]; rfl)) (ha' := by (obtain ⟨_, _, e⟩ := hf52; rw [e]; rfl))
        refine s_nil <| x_dynS (fun _ h => by kernel_rfl) ?_
        refine xs_then <| k_reg ?_
        refine sp (pB b 0) ?_
        refine sp (pB b 0) ?_
        refine sp (pB b 2) ?_
        refine s_lt (t_load 1 (iw (cnt (live S) : Int))) ?_
        refine s_lt (t_add (cnt (live S) : Int) 1 (by (try simp only [lnm]); omega)) ?_
        refine sp (pB b 0) ?_
        refine sp (pB b 2) ?_
        refine s_store 1 #[v51, .map (some mb45), iw ((cnt (live S) : Int) + 1)] ?_
        refine s_nil <| xs_block ?_
        refine xs_then <| k_sr <| sp (iw 0) ?_
        refine s_nt <| k_ret ?_
        have hk := okKey_good c8 c11
        have hcl := cnt_le S
        have hS : osetL S k v = ((live S) ++ [(⟨k, v, false⟩ : Slt)]) := by rw [osetL_put hk c14 (of_decide_eq_false c35), ht22]; show (if _ then _ else _) ++ _ = _; rw [if_pos (by have hx := of_decide_eq_true c39; omega)]
        have hinv1 : OInv ((live S) ++ [(⟨k, v, false⟩ : Slt)]) := by rw [← hS]; exact osetL_inv hinv0 k v
        refine xs_mem (fun _ h => om_shut (S := ((live S) ++ [(⟨k, v, false⟩ : Slt)])) (n := ((cnt (live S) : Int) + 1)) ⟨⟨hinv1, agr_snoc hag48 k v⟩, by rw [cnt_snoc]; try rfl⟩ (h.re [1, 1, 1] [])) ?_
        refine xs_fin [iw 0] (omA b ((live S) ++ [(⟨k, v, false⟩ : Slt)]) :: F) (SI.tmp 6 SI.nil) (fun _ h => h.re [0] [1, 1, 1]) ⟨congrArg (Value.int .i64) (osetE_ok hk c14).symm, ?_⟩
        rw [hS]
       ·
        have p53 := of_decide_eq_false c39
        refine k_st <| k_seq <| k_draw ?_
        refine sp (pB b 0) ?_
        refine sp (pB b 0) ?_
        refine sp (pB b 1) ?_
        refine s_lt (t_load 0 (.map (some mb16))) ?_
        refine s_lt (t_loadA 4 (vc k)) ?_
        refine sp (pB b 0) ?_
        refine sp (pB b 0) ?_
        refine sp (pB b 0) ?_
        refine s_lt (t_load 0 sv15) ?_
        refine s_lt (t_len SltT_ok Tryz.underlying223 (.own 1)) ?_
        refine s_update 2 vK_ok Tryz.underlying222 k S.length ?_
        refine s_nil <| x_dynS (fun _ h => by obtain ⟨_, _, e⟩ := hf38; subst e; kernel_rfl) ?_
        refine xs_then <| k_seq <| k_draw ?_
        refine sp (pB b 0) ?_
        refine sp (pB b 0) ?_
        refine sp (pB b 0) ?_
        refine sp (pB b 0) ?_
        refine s_lt (t_load 0 sv15) ?_
        refine s_lt (t_loadA 4 (vc k)) ?_
        refine s_lt (t_loadA 3 (vc v)) ?_
        refine s_lt (t_kern (.agg #[iw k.kind, iw k.p, iw k.q, sw k.str, iw k.ref, iw v.kind, iw v.p, iw v.q, sw v.str, iw v.ref, .bool false])) ?_
        refine s_buildSlice (e := 261) [(0, .agg #[iw k.kind, iw k.p, iw k.q, sw k.str, iw k.ref, iw v.kind, iw v.p, iw v.q, sw v.str, iw v.ref, .bool false])] #[iw k.kind, iw k.p, iw k.q, sw k.str, iw k.ref, iw v.kind, iw v.p, iw v.q, sw v.str, iw v.ref, .bool false] (fun g54 => ?_) (hb := by kernel_rfl)
        refine s_append (L := S) 2 SltT_ok Tryz.underlying223 (.lit 0 SltT_ok [(⟨k, v, false⟩ : Slt)]) (by show _ * 104 ≤ _; (try simp only [lnm]); omega) (by (try simp only [lnm]); omega) (fun v55 => ?_)
        refine sp (pB b 0) ?_
        refine sp (pB b 0) ?_
        refine s_fact (fun H h => ((Acc.own (T := SltT) (L := (S ++ [(⟨k, v, false⟩ : Slt)])) 2 rfl) H h).form) (fun hf56 => ?_)
        refine s_store (u := v55) (m := 1) 1 #[v55, .map (some mb16), iw (cnt S : Int)] ?_ (hm := by (obtain ⟨_, _, e⟩ := hf56; rw [e]; rfl)) (h1 := by (obtain ⟨_, _, e⟩ := hf56; rw [e]; rfl)) (ha' := by (obtain ⟨_, _, e⟩ := hf56; rw [e]; rfl))
        refine s_nil <| x_dynS (fun _ h => by kernel_rfl) ?_
        refine xs_then <| k_reg ?_
        refine sp (pB b 0) ?_
        refine sp (pB b 0) ?_
        refine sp (pB b 2) ?_
        refine s_lt (t_load 1 (iw (cnt S : Int))) ?_
        refine s_lt (t_add (cnt S : Int) 1 (by (try simp only [lnm]); omega)) ?_
        refine sp (pB b 0) ?_
        refine sp (pB b 2) ?_
        refine s_store 1 #[v55, .map (some mb16), iw ((cnt S : Int) + 1)] ?_
        refine s_nil <| xs_block ?_
        refine xs_then <| k_sr <| sp (iw 0) ?_
        refine s_nt <| k_ret ?_
        have hk := okKey_good c8 c11
        have hcl := cnt_le S
        have hS : osetL S k v = (S ++ [(⟨k, v, false⟩ : Slt)]) := by rw [osetL_put hk c14 (of_decide_eq_false c35), ht22]; show (if _ then _ else _) ++ _ = _; rw [if_neg (by have hx := of_decide_eq_false c39; omega)]
        have hinv1 : OInv (S ++ [(⟨k, v, false⟩ : Slt)]) := by rw [← hS]; exact osetL_inv hinv0 k v
        refine xs_mem (fun _ h => om_shut (S := (S ++ [(⟨k, v, false⟩ : Slt)])) (n := ((cnt S : Int) + 1)) ⟨⟨hinv1, agr_snoc hag19 k v⟩, by rw [cnt_snoc]; try rfl⟩ (h.re [1, 1, 1] [])) ?_
        refine xs_fin [iw 0] (omA b (S ++ [(⟨k, v, false⟩ : Slt)]) :: F) (SI.tmp 6 SI.nil) (fun _ h => h.re [0] [1, 1, 1]) ⟨congrArg (Value.int .i64) (osetE_ok hk c14).symm, ?_⟩
        rw [hS]
    ·
     have hlt57 : i24 < S.length := (List.getElem?_eq_some_iff.1 hs28).1
     refine s_lt (Lt.to (v' := .tuple #[iw (i24 : Int), .bool true]) (t_lookupOk 2 vK_ok Tryz.underlying222 (iw 0) k) (by rw [hm27]; rfl)) ?_
     refine sp (.tuple #[iw (i24 : Int), .bool true]) ?_
     refine sp (iw (i24 : Int)) ?_
     refine sp (.bool true) ?_
     refine sp (iw (i24 : Int)) ?_
     refine sp (.bool true) ?_
     refine s_nil <| x_dynS (fun _ h => by kernel_rfl) ?_
     refine xs_then <| k_sr <| sp (.bool true) ?_
     refine sp (.bool true) ?_
     refine sp (pB b 0) ?_
     refine sp (pB b 0) ?_
     refine sp (pB b 0) ?_
     refine s_lt (t_load 0 sv15) ?_
     refine sp (iw (i24 : Int)) ?_
     refine s_lt (t_index SltT_ok Tryz.underlying223 (.own 1) (i24 : Int) i24 (by omega) (by (try simp only [lnm]); omega) (by omega)) ?_
     refine sp (.pointer (some ((elemAt SltT.size sv15 i24).add 10))) ?_
     refine s_lt (t_loadF 10 SltT_ok (.own 1) hs28) ?_
     refine sp (.bool (!s25.gone)) ?_
     refine sp (.bool (!s25.gone)) ?_
     refine sp (.bool (!s25.gone)) ?_
     refine s_nt <| k_seq <| k_block ?_
     refine k_cut (ι := Unit) (fun _ => True) (fun _ => [(0, pB b 0), (4, pB g1 0), (5, pB g2 0), (7, iw (i24 : Int)), (9, .bool (!s25.gone)), (94, .bool ((decide (v.kind = 0)) && (!s25.gone)))]) (fun _ => blkA b #[sv15, .map (some mb16), iw (cnt S : Int)] 225 :: own SltT sv15 S :: mpA vK nV mb16 m17 :: blkA g2 (vc v) 71 :: blkA g1 (vc k) 71 :: F) ?_ (fun _ _ => ?_)
     ·
      refine k_reg ?_
      refine sp (pB g2 0) ?_
      refine s_lt (t_load 3 (iw v.kind)) ?_
      refine s_lt t_cmp ?_
      refine sp (.bool (decide (v.kind = 0))) ?_
      refine s_fork 98 (decide (v.kind = 0)) (fun c58 => ?_) (fun c58 => ?_)
      ·
       have p59 := of_decide_eq_true c58
       refine sp (.bool (!s25.gone)) ?_
       refine sp (.bool (!s25.gone)) ?_
       refine sp (.bool (!s25.gone)) ?_
       refine s_nil ?_
       exact xs_cut () trivial (sub_of rfl ⟨⟨rfl, rfl⟩, ⟨⟨rfl, rfl⟩, ⟨⟨rfl, rfl⟩, ⟨⟨rfl, rfl⟩, ⟨⟨rfl, rfl⟩, ⟨⟨rfl, show Value.bool (!s25.gone) = Value.bool ((decide (v.kind = 0)) && (!s25.gone)) by first | (simp only [c58, bls]; done) | simp [c58]⟩, trivial⟩⟩⟩⟩⟩⟩) (fun _ h => h.re [0, 0, 0, 0, 0] [])
      ·
       have p60 := of_decide_eq_false c58
       refine s_skip ?_
       refine sp (.bool false) ?_
       refine sp (.bool false) ?_
       refine s_nil ?_
       exact xs_cut () trivial (sub_of rfl ⟨⟨rfl, rfl⟩, ⟨⟨rfl, rfl⟩, ⟨⟨rfl, rfl⟩, ⟨⟨rfl, rfl⟩, ⟨⟨rfl, rfl⟩, ⟨⟨rfl, show Value.bool false = Value.bool ((decide (v.kind = 0)) && (!s25.gone)) by first | (simp only [c58, bls]; done) | simp [c58]⟩, trivial⟩⟩⟩⟩⟩⟩) (fun _ h => h.re [0, 0, 0, 0, 0] [])
     ·
      refine k_cond ((decide (v.kind = 0)) && (!s25.gone)) (fun c61 => ?_) (fun c61 => ?_)
      ·
       obtain ⟨c62, c63⟩ := and_t c61
       have p64 := of_decide_eq_true c62
       have c65 := not_t c63
       refine k_seq <| k_draw ?_
       refine sp (pB b 0) ?_
       refine sp (pB b 0) ?_
       refine sp (pB b 0) ?_
       refine s_lt (t_load 0 sv15) ?_
       refine sp (iw (i24 : Int)) ?_
       refine s_lt (t_loadA 4 (vc k)) ?_
       refine s_lt (t_kern (.agg #[iw k.kind, iw k.p, iw k.q, sw k.str, iw k.ref, iw 0, iw 0, iw 0, sw eb, iw 0, .bool true])) ?_
       refine s_lt (t_index SltT_ok Tryz.underlying223 (.own 1) (i24 : Int) i24 (by omega) (by (try simp only [lnm]); omega) (by omega)) ?_
       refine s_storeE 1 0 (⟨k, zVl, true⟩ : Slt) SltT_ok hs28 ?_
       refine s_nil <| x_dynS (fun _ h => by kernel_rfl) ?_
       refine xs_then <| k_reg ?_
       refine sp (pB b 0) ?_
       refine sp (pB b 0) ?_
       refine sp (pB b 2) ?_
       refine s_lt (t_load 0 (iw (cnt S : Int))) ?_
       refine s_lt (t_sub (cnt S : Int) 1 (by (try simp only [lnm]); omega)) ?_
       refine sp (pB b 0) ?_
       refine sp (pB b 2) ?_
       refine s_store 0 #[sv15, .map (some mb16), iw ((cnt S : Int) - 1)] ?_
       refine s_nil <| xs_block ?_
       refine xs_then <| k_sr <| sp (iw 0) ?_
       refine s_nt <| k_ret ?_
       have hk := okKey_good c8 c11
       have hS : osetL S k v = (S.set i24 (⟨k, zVl, true⟩ : Slt)) := by rw [osetL_rem hk c14 (of_decide_eq_true c62), ht31, if_neg (by rw [c65]; decide)]
       have hinv1 : OInv (S.set i24 (⟨k, zVl, true⟩ : Slt)) := by rw [← hS]; exact osetL_inv hinv0 k v
       refine xs_mem (fun _ h => om_shut (S := (S.set i24 (⟨k, zVl, true⟩ : Slt))) (n := ((cnt S : Int) - 1)) ⟨⟨hinv1, agr_set hag19 hl26 rfl⟩, (cnt_gone hs28 c65 k).symm⟩ (h.re [0, 0, 0] [])) ?_
       refine xs_fin [iw 0] (omA b (S.set i24 (⟨k, zVl, true⟩ : Slt)) :: F) (SI.tmp 6 SI.nil) (fun _ h => h.re [0] [1, 1]) ⟨congrArg (Value.int .i64) (osetE_ok hk c14).symm, ?_⟩
       rw [hS]
      ·
       have p66 := c61
       simp only [Bool.and_eq_true, Bool.or_eq_true, Bool.and_eq_false_iff, Bool.or_eq_false_iff, Bool.not_eq_true', Bool.not_eq_false', decide_eq_true_eq, decide_eq_false_iff_not] at p66
       refine k_sr <| sp (pB g2 0) ?_
       refine s_lt (t_load 3 (iw v.kind)) ?_
       refine s_lt t_cmp ?_
       refine sp (.bool (decide (v.kind = 0))) ?_
       refine s_nt <| k_cond (decide (v.kind = 0)) (fun c67 => ?_) (fun c67 => ?_)
       ·
        have p68 := of_decide_eq_true c67
        refine k_skip ?_
        refine xs_block ?_
        refine xs_then <| k_sr <| sp (iw 0) ?_
        refine s_nt <| k_ret ?_
        have hk := okKey_good c8 c11
        have hgg : s25.gone = true := by have hx := p66; have hy := of_decide_eq_true c67; simpa [hy] using hx
        have hS : osetL S k v = S := by rw [osetL_rem hk c14 (of_decide_eq_true c67), ht31, if_pos hgg]
        have hinv1 : OInv S := by rw [← hS]; exact osetL_inv hinv0 k v
        refine xs_mem (fun _ h => om_shut (S := S) (n := (cnt S : Int)) ⟨⟨hinv1, hag19⟩, rfl⟩ (h.re [0, 0, 0] [])) ?_
        refine xs_fin [iw 0] (omA b S :: F) (SI.tmp 6 SI.nil) (fun _ h => h.re [0] [1, 1]) ⟨congrArg (Value.int .i64) (osetE_ok hk c14).symm, ?_⟩
        rw [hS]
       ·
        have p69 := of_decide_eq_false c67
        refine k_sr <| sp (.bool (!s25.gone)) ?_
        refine sp (.bool (!s25.gone)) ?_
        refine s_nt <| k_cond (!s25.gone) (fun c70 => ?_) (fun c70 => ?_)
        ·
         have c71 := not_t c70
         refine k_draw ?_
         refine sp (pB b 0) ?_
         refine sp (pB b 0) ?_
         refine sp (pB b 0) ?_
         refine s_lt (t_load 0 sv15) ?_
         refine sp (iw (i24 : Int)) ?_
         refine s_lt (t_loadA 3 (vc v)) ?_
         refine s_lt (t_index SltT_ok Tryz.underlying223 (.own 1) (i24 : Int) i24 (by omega) (by (try simp only [lnm]); omega) (by omega)) ?_
         refine sp (.pointer (some ((elemAt SltT.size sv15 i24).add 5))) ?_
         refine s_storeE 1 5 (⟨s25.key, v, s25.gone⟩ : Slt) SltT_ok hs28 ?_
         refine s_nil <| x_dynS (fun _ h => by kernel_rfl) ?_
         refine xs_block ?_
         refine xs_then <| k_sr <| sp (iw 0) ?_
         refine s_nt <| k_ret ?_
         have hk := okKey_good c8 c11
         have hS : osetL S k v = (S.set i24 (⟨s25.key, v, s25.gone⟩ : Slt)) := by rw [osetL_put hk c14 (of_decide_eq_false c67), ht31, if_neg (by rw [c71]; decide), hk29, c71]
         have hinv1 : OInv (S.set i24 (⟨s25.key, v, s25.gone⟩ : Slt)) := by rw [← hS]; exact osetL_inv hinv0 k v
         refine xs_mem (fun _ h => om_shut (S := (S.set i24 (⟨s25.key, v, s25.gone⟩ : Slt))) (n := (cnt S : Int)) ⟨⟨hinv1, agr_set hag19 hl26 hk29⟩, by rw [c71]; exact congrArg (fun n : Nat => (n : Int)) (cnt_val hs28 c71 _ _).symm⟩ (h.re [0, 0, 0] [])) ?_
         refine xs_fin [iw 0] (omA b (S.set i24 (⟨s25.key, v, s25.gone⟩ : Slt)) :: F) (SI.tmp 6 SI.nil) (fun _ h => h.re [0] [1, 1]) ⟨congrArg (Value.int .i64) (osetE_ok hk c14).symm, ?_⟩
         rw [hS]
        ·
         have c72 := not_f c70
         refine k_seq <| k_seq <| k_draw ?_
         refine sp (pB b 0) ?_
         refine sp (pB b 0) ?_
         refine sp (pB b 0) ?_
         refine s_lt (t_load 0 sv15) ?_
         refine s_fact (fun H h => ((Acc.own (T := SltT) (L := S) 1 rfl) H h).form) (fun hf73 => ?_)
         refine s_lt (t_len SltT_ok Tryz.underlying223 (.own 1)) ?_
         refine sp (pB b 0) ?_
         refine sp (pB b 0) ?_
         refine sp (pB b 2) ?_
         refine s_lt (t_load 0 (iw (cnt S : Int))) ?_
         refine s_lt (t_sub (S.length : Int) (cnt S : Int) (by (try simp only [lnm]); omega)) ?_
         refine sp (pB b 0) ?_
         refine sp (pB b 0) ?_
         refine sp (pB b 2) ?_
         refine s_lt (t_load 0 (iw (cnt S : Int))) ?_
         refine s_lt (t_add (cnt S : Int) 8 (by (try simp only [lnm]); omega)) ?_
         refine s_lt t_cmp ?_
         refine s_nil <| x_dynS (fun _ h => by obtain ⟨_, _, e⟩ := hf73; subst e; kernel_rfl) ?_
         refine xs_then <| k_cond (decide (((cnt S : Int) + 8) < ((S.length : Int) - (cnt S : Int)))) (fun c74 => ?_) (fun c74 => ?_)
         ·
          have p75 := of_decide_eq_true c74
          refine k_reg ?_
          refine sp (pB b 0) ?_
          refine s_mem (fun _ h => om_shut (S := S) (n := (cnt S : Int)) ⟨⟨hinv18, hag19⟩, rfl⟩ (h.re [0, 0, 0] [])) ?_
          refine s_call [0] (omdrop_s (S := S) (by omega)) ?_
          rintro _ _ ⟨rfl, rfl⟩
          have hll76 := cnt_le S
          have hll77 := cnt_live S
          have hll78 : (live S).length = cnt S := rfl
          refine s_nt <| k_seq <| k_draw ?_
          refine sp (pB b 0) ?_
          refine sp (pB b 0) ?_
          refine sp (pB b 1) ?_
          refine s_mem3 (fun H h => om_open (h.re [0] [])) (fun sv79 mb80 m81 hw => ?_)
          obtain ⟨hinv82, hag83⟩ := hw
          refine s_lt (t_load 0 (.map (some mb80))) ?_
          refine s_lt (t_loadA 4 (vc k)) ?_
          refine sp (pB b 0) ?_
          refine sp (pB b 0) ?_
          refine sp (pB b 0) ?_
          refine s_lt (t_load 0 sv79) ?_
          refine s_fact (fun H h => ((Acc.own (T := SltT) (L := (live S)) 1 rfl) H h).form) (fun hf84 => ?_)
          refine s_lt (t_len SltT_ok Tryz.underlying223 (.own 1)) ?_
          refine s_update 2 vK_ok Tryz.underlying222 k ((live S).length) ?_
          refine s_nil <| x_dynS (fun _ h => by obtain ⟨_, _, e⟩ := hf84; subst e; kernel_rfl) ?_
          refine xs_then <| k_seq <| k_draw ?_
          refine sp (pB b 0) ?_
          refine sp (pB b 0) ?_
          refine sp (pB b 0) ?_
          refine sp (pB b 0) ?_
          refine s_lt (t_load 0 sv79) ?_
          refine s_lt (t_loadA 4 (vc k)) ?_
          refine s_lt (t_loadA 3 (vc v)) ?_
          refine s_lt (t_kern (.agg #[iw k.kind, iw k.p, iw k.q, sw k.str, iw k.ref, iw v.kind, iw v.p, iw v.q, sw v.str, iw v.ref, .bool false])) ?_
          refine s_buildSlice (e := 261) [(0, .agg #[iw k.kind, iw k.p, iw k.q, sw k.str, iw k.ref, iw v.kind, iw v.p, iw v.q, sw v.str, iw v.ref, .bool false])] #[iw k.kind, iw k.p, iw k.q, sw k.str, iw k.ref, iw v.kind, iw v.p, iw v.q, sw v.str, iw v.ref, .bool false] (fun g85 => ?_) (hb := by kernel_rfl)
          refine s_append (L := (live S)) 2 SltT_ok Tryz.underlying223 (.lit 0 SltT_ok [(⟨k, v, false⟩ : Slt)]) (by show _ * 104 ≤ _; (try simp only [lnm]); omega) (by (try simp only [lnm]); omega) (fun v86 => ?_)
          refine sp (pB b 0) ?_
          refine sp (pB b 0) ?_
          refine s_fact (fun H h => ((Acc.own (T := SltT) (L := ((live S) ++ [(⟨k, v, false⟩ : Slt)])) 2 rfl) H h).form) (fun hf87 => ?_)
          refine s_store (u := v86) (m := 1) 1 #[v86, .map (some mb80), iw (cnt (live S) : Int)] ?_ (hm := by (obtain ⟨_, _, e⟩ := hf87; rw [e]; rfl)) (h1 := by (obtain ⟨_, _, e⟩ := hf87; rw [e]; rfl)) (ha' := by (obtain ⟨_, _, e⟩ := hf87; rw [e]; rfl))
          refine s_nil <| x_dynS (fun _ h => by kernel_rfl) ?_
          refine xs_then <| k_reg ?_
          refine sp (pB b 0) ?_
          refine sp (pB b 0) ?_
          refine sp (pB b 2) ?_
          refine s_lt (t_load 1 (iw (cnt (live S) : Int))) ?_
          refine s_lt (t_add (cnt (live S) : Int) 1 (by (try simp only [lnm]); omega)) ?_
          refine sp (pB b 0) ?_
          refine sp (pB b 2) ?_
          refine s_store 1 #[v86, .map (some mb80), iw ((cnt (live S) : Int) + 1)] ?_
          refine s_nil <| xs_block ?_
          refine xs_then <| k_sr <| sp (iw 0) ?_
          refine s_nt <| k_ret ?_
          have hk := okKey_good c8 c11
          have hcl := cnt_le S
          have hS : osetL S k v = ((live S) ++ [(⟨k, v, false⟩ : Slt)]) := by rw [osetL_put hk c14 (of_decide_eq_false c67), ht31, if_pos c72]; show (if _ then _ else _) ++ _ = _; rw [if_pos (by have hx := of_decide_eq_true c74; omega)]
          have hinv1 : OInv ((live S) ++ [(⟨k, v, false⟩ : Slt)]) := by rw [← hS]; exact osetL_inv hinv0 k v
          refine xs_mem (fun _ h => om_shut (S := ((live S) ++ [(⟨k, v, false⟩ : Slt)])) (n := ((cnt (live S) : Int) + 1)) ⟨⟨hinv1, agr_snoc hag83 k v⟩, by rw [cnt_snoc]; try rfl⟩ (h.re [1, 1, 1] [])) ?_
          refine xs_fin [iw 0] (omA b ((live S) ++ [(⟨k, v, false⟩ : Slt)]) :: F) (SI.tmp 6 SI.nil) (fun _ h => h.re [0] [1, 1, 1]) ⟨congrArg (Value.int .i64) (osetE_ok hk c14).symm, ?_⟩
          rw [hS]
         ·
          have p88 := of_decide_eq_false c74
          refine k_st <| k_seq <| k_draw ?_
          refine sp (pB b 0) ?_
          refine sp (pB b 0) ?_
          refine sp (pB b 1) ?_
          refine s_lt (t_load 0 (.map (some mb16))) ?_
          refine s_lt (t_loadA 4 (vc k)) ?_
          refine sp (pB b 0) ?_
          refine sp (pB b 0) ?_
          refine sp (pB b 0) ?_
          refine s_lt (t_load 0 sv15) ?_
          refine s_lt (t_len SltT_ok Tryz.underlying223 (.own 1)) ?_
          refine s_update 2 vK_ok Tryz.underlying222 k S.length ?_
          refine s_nil <| x_dynS (fun _ h => by obtain ⟨_, _, e⟩ := hf73; subst e; kernel_rfl) ?_
          refine xs_then <| k_seq <| k_draw ?_
          refine sp (pB b 0) ?_
          refine sp (pB b 0) ?_
          refine sp (pB b 0) ?_
          refine sp (pB b 0) ?_
          refine s_lt (t_load 0 sv15) ?_
          refine s_lt (t_loadA 4 (vc k)) ?_
          refine s_lt (t_loadA 3 (vc v)) ?_
          refine s_lt (t_kern (.agg #[iw k.kind, iw k.p, iw k.q, sw k.str, iw k.ref, iw v.kind, iw v.p, iw v.q, sw v.str, iw v.ref, .bool false])) ?_
          refine s_buildSlice (e := 261) [(0, .agg #[iw k.kind, iw k.p, iw k.q, sw k.str, iw k.ref, iw v.kind, iw v.p, iw v.q, sw v.str, iw v.ref, .bool false])] #[iw k.kind, iw k.p, iw k.q, sw k.str, iw k.ref, iw v.kind, iw v.p, iw v.q, sw v.str, iw v.ref, .bool false] (fun g89 => ?_) (hb := by kernel_rfl)
          refine s_append (L := S) 2 SltT_ok Tryz.underlying223 (.lit 0 SltT_ok [(⟨k, v, false⟩ : Slt)]) (by show _ * 104 ≤ _; (try simp only [lnm]); omega) (by (try simp only [lnm]); omega) (fun v90 => ?_)
          refine sp (pB b 0) ?_
          refine sp (pB b 0) ?_
          refine s_fact (fun H h => ((Acc.own (T := SltT) (L := (S ++ [(⟨k, v, false⟩ : Slt)])) 2 rfl) H h).form) (fun hf91 => ?_)
          refine s_store (u := v90) (m := 1) 1 #[v90, .map (some mb16), iw (cnt S : Int)] ?_ (hm := by (obtain ⟨_, _, e⟩ := hf91; rw [e]; rfl)) (h1 := by (obtain ⟨_, _, e⟩ := hf91; rw [e]; rfl)) (ha' := by (obtain ⟨_, _, e⟩ := hf91; rw [e]; rfl))
          refine s_nil <| x_dynS (fun _ h => by kernel_rfl) ?_
          refine xs_then <| k_reg ?_
          refine sp (pB b 0) ?_
          refine sp (pB b 0) ?_
          refine sp (pB b 2) ?_
          refine s_lt (t_load 1 (iw (cnt S : Int))) ?_
          refine s_lt (t_add (cnt S : Int) 1 (by (try simp only [lnm]); omega)) ?_
          refine sp (pB b 0) ?_
          refine sp (pB b 2) ?_
          refine s_store 1 #[v90, .map (some mb16), iw ((cnt S : Int) + 1)] ?_
          refine s_nil <| xs_block ?_
          refine xs_then <| k_sr <| sp (iw 0) ?_
          refine s_nt <| k_ret ?_
          have hk := okKey_good c8 c11
          have hcl := cnt_le S
          have hS : osetL S k v = (S ++ [(⟨k, v, false⟩ : Slt)]) := by rw [osetL_put hk c14 (of_decide_eq_false c67), ht31, if_pos c72]; show (if _ then _ else _) ++ _ = _; rw [if_neg (by have hx := of_decide_eq_false c74; omega)]
          have hinv1 : OInv (S ++ [(⟨k, v, false⟩ : Slt)]) := by rw [← hS]; exact osetL_inv hinv0 k v
          refine xs_mem (fun _ h => om_shut (S := (S ++ [(⟨k, v, false⟩ : Slt)])) (n := ((cnt S : Int) + 1)) ⟨⟨hinv1, agr_snoc hag19 k v⟩, by rw [cnt_snoc]; try rfl⟩ (h.re [1, 1, 1] [])) ?_
          refine xs_fin [iw 0] (omA b (S ++ [(⟨k, v, false⟩ : Slt)]) :: F) (SI.tmp 6 SI.nil) (fun _ h => h.re [0] [1, 1, 1]) ⟨congrArg (Value.int .i64) (osetE_ok hk c14).symm, ?_⟩
          rw [hS]
theorem omnext_s {Z : Zone} {F : List Asr} {b : Nat} {S : List Slt} (hs : S.length ≤ 1000000) (k : Vl) : SF Tryz.prog 210 #[.pointer (some ⟨b, 0, none⟩), k.v] Z (omA b S :: F) fun r Bs => r = nextV (onext S k) ∧ Bs = omA b S :: F := by
 refine sf_enter Tryz.func210 56 [(0, pB b 0), (1, .agg (vc k))] (fun w0 => ?_)
 refine k_sr <| s_box (vc k) (fun g1 => ?_)
 refine s_alloc (.agg zc) zc (fun g2 => ?_)
 refine s_alloc (.agg zc) zc (fun g3 => ?_)
 refine sp (.bool false) ?_
 refine sp (iw 0) ?_
 refine s_nt <| k_seq <| k_sr <| sp (pB b 0) ?_
 refine sp (.bool false) ?_
 refine s_nt <| k_false ?_
 refine k_st <| k_sr <| sp (iw 0) ?_
 refine s_nt <| k_seq <| k_sr <| s_lt (t_loadA 2 (vc k)) ?_
 refine s_lt (t_kern (.agg zc)) ?_
 refine s_lt (t_eqS (fun w => (eqVlT k zVl w).2)) ?_
 refine s_nt <| k_cond (!(decide (k = zVl))) (fun c4 => ?_) (fun c4 => ?_)
 ·
  have c5 := not_t c4
  have p6 := of_decide_eq_false c5
  refine k_seq <| k_draw ?_
  refine sp (pB b 0) ?_
  refine sp (pB b 0) ?_
  refine sp (pB b 1) ?_
  refine s_mem3 (fun H h => om_open (h.re [3] [])) (fun sv7 mb8 m9 hw => ?_)
  obtain ⟨hinv10, hag11⟩ := hw
  refine s_lt (t_load 0 (.map (some mb8))) ?_
  refine s_lt (t_loadA 5 (vc k)) ?_
  rcases last_cases hag11 hinv10 k with ⟨hl12, hm13, ht14, hg15⟩ | ⟨i16, s17, hl18, hm19, hs20, hk21, hg22, ht23⟩
  ·
   refine s_lt (Lt.to (v' := .tuple #[iw 0, .bool false]) (t_lookupOk 2 vK_ok Tryz.underlying222 (iw 0) k) (by rw [hm13]; rfl)) ?_
   refine sp (.tuple #[iw 0, .bool false]) ?_
   refine sp (iw 0) ?_
   refine sp (.bool false) ?_
   refine sp (iw 0) ?_
   refine sp (.bool false) ?_
   refine s_nil <| x_dynS (fun _ h => by kernel_rfl) ?_
   refine xs_then <| k_seq <| k_sr <| sp (.bool false) ?_
   refine sp (.bool true) ?_
   refine s_nt <| k_true ?_
   refine k_sr <| s_lt (t_kern (.agg zc)) ?_
   refine s_lt (t_kern (.agg zc)) ?_
   refine s_store 4 zc ?_
   refine s_store 3 zc ?_
   refine sp (.bool false) ?_
   refine sp (iw 13) ?_
   refine s_nt <| k_ret <| xs_ret <| xs_ret <| xs_mem (fun _ h => om_shut (S := S) (n := (cnt S : Int)) ⟨⟨hinv10, hag11⟩, rfl⟩ (h.re [0, 0, 0] [])) ?_
   have hp : onext S k = (zVl, zVl, false, 13) := (onext_none (of_decide_eq_false c5) hl12)
   refine xs_fin [.agg zc, .agg zc, .bool false, iw 13] (omA b S :: F) (SI.agg 4 71 2 (SI.agg 5 71 1 (SI.tmp 6 (SI.tmp 7 SI.nil)))) (fun _ h => h.re [0] [1, 1, 1]) ⟨?_, rfl⟩
   rw [hp]; rfl
  ·
   have hlt24 : i16 < S.length := (List.getElem?_eq_some_iff.1 hs20).1
   refine s_lt (Lt.to (v' := .tuple #[iw (i16 : Int), .bool true]) (t_lookupOk 2 vK_ok Tryz.underlying222 (iw 0) k) (by rw [hm19]; rfl)) ?_
   refine sp (.tuple #[iw (i16 : Int), .bool true]) ?_
   refine sp (iw (i16 : Int)) ?_
   refine sp (.bool true) ?_
   refine sp (iw (i16 : Int)) ?_
   refine sp (.bool true) ?_
   refine s_nil <| x_dynS (fun _ h => by kernel_rfl) ?_
   refine xs_then <| k_seq <| k_sr <| sp (.bool true) ?_
   refine sp (.bool false) ?_
   refine s_nt <| k_false ?_
   refine k_st <| k_reg ?_
   refine sp (iw (i16 : Int)) ?_
   refine s_lt (t_add (i16 : Int) 1 (by (try simp only [lnm]); omega)) ?_
   refine sp (iw ((i16 : Int) + 1)) ?_
   refine s_nt <| k_seq <| k_sr <| sp (pB b 0) ?_
   refine sp (pB b 0) ?_
   refine sp (pB b 0) ?_
   refine s_lt (t_load 0 sv7) ?_
   refine sp (iw ((i16 : Int) + 1)) ?_
   refine s_lt (t_suf SltT_ok Tryz.underlying223 (.own 1) ((i16 : Int) + 1) (i16 + 1) (by omega) (by (try simp only [lnm]); omega) (by omega)) ?_
   refine s_lt (t_len SltT_ok Tryz.underlying223 (Acc.suf (.own 1) SltT_ok (i16 + 1) (by (try simp only [lnm]); omega))) ?_
   refine sp (iw 0) ?_
   refine s_nt <| k_block ?_
   have hdl : (S.drop (i16 + 1)).length = S.length - (i16 + 1) := List.length_drop
   refine k_loop (ι := Nat) (fun j => j ≤ (S.drop (i16 + 1)).length ∧ live ((S.drop (i16 + 1)).take j) = []) (fun j => [(4, pB g2 0), (5, pB g3 0), (40, (suf SltT.size sv7 (i16 + 1))), (41, iw ((S.drop (i16 + 1)).length : Int)), (42, iw (j : Int))]) (fun j => blkA b #[sv7, .map (some mb8), iw (cnt S : Int)] 225 :: own SltT sv7 S :: mpA vK nV mb8 m9 :: blkA g3 zc 71 :: blkA g2 zc 71 :: blkA g1 (vc k) 71 :: F) (fun j => (S.drop (i16 + 1)).length - j) 0 ⟨Nat.zero_le _, rfl⟩ (sub_of rfl ⟨⟨rfl, rfl⟩, ⟨⟨rfl, rfl⟩, ⟨⟨rfl, rfl⟩, ⟨⟨rfl, rfl⟩, ⟨⟨rfl, rfl⟩, trivial⟩⟩⟩⟩⟩) (fun _ h => h.re [0, 0, 0, 0, 0, 0] []) ?_
   rintro j hi25
   show SK _ _ _ _ _ [(4, .pointer (some ⟨g2, 0, none⟩)), (5, .pointer (some ⟨g3, 0, none⟩)), (40, (suf SltT.size sv7 (i16 + 1))), (41, iw ((S.drop (i16 + 1)).length : Int)), (42, iw (j : Int))] _ (blkA b #[sv7, .map (some mb8), iw (cnt S : Int)] 225 :: own SltT sv7 S :: mpA vK nV mb8 m9 :: blkA g3 zc 71 :: blkA g2 zc 71 :: blkA g1 (vc k) 71 :: F)
   refine k_sr <| s_lt t_cmp ?_
   refine s_nt <| k_seq <| k_cond (decide ((j : Int) < ((S.drop (i16 + 1)).length : Int))) (fun c26 => ?_) (fun c26 => ?_)
   ·
    have p27 := of_decide_eq_true c26
    refine k_st <| k_seq <| k_block ?_
    refine k_sr <| s_lt (t_index SltT_ok Tryz.underlying223 (Acc.suf (.own 1) SltT_ok (i16 + 1) (by (try simp only [lnm]); omega)) (j : Int) j (by omega) (by (try simp only [lnm]); omega) (by omega)) ?_
    obtain ⟨y28, hy29⟩ : ∃ y, (S.drop (i16 + 1))[j]? = some y := ⟨_, List.getElem?_eq_getElem (by (try simp only [lnm]); omega)⟩
    refine s_lt (t_loadE SltT_ok (Acc.suf (.own 1) SltT_ok (i16 + 1) (by (try simp only [lnm]); omega)) hy29) ?_
    refine s_alloc (.agg #[iw 0, iw 0, iw 0, sw eb, iw 0, iw 0, iw 0, iw 0, sw eb, iw 0, .bool false]) #[iw 0, iw 0, iw 0, sw eb, iw 0, iw 0, iw 0, iw 0, sw eb, iw 0, .bool false] (fun g30 => ?_)
    refine s_store 0 #[iw y28.key.kind, iw y28.key.p, iw y28.key.q, sw y28.key.str, iw y28.key.ref, iw y28.val.kind, iw y28.val.p, iw y28.val.q, sw y28.val.str, iw y28.val.ref, .bool y28.gone] ?_
    refine s_nr ?_
    refine sp (pB g30 10) ?_
    refine s_lt (t_load 0 (.bool y28.gone)) ?_
    refine sp (.bool (!y28.gone)) ?_
    refine s_nt <| k_cond (!y28.gone) (fun c31 => ?_) (fun c31 => ?_)
    ·
     have c32 := not_t c31
     refine k_seq <| k_held [blkA g30 #[iw y28.key.kind, iw y28.key.p, iw y28.key.q, sw y28.key.str, iw y28.key.ref, iw y28.val.kind, iw y28.val.p, iw y28.val.q, sw y28.val.str, iw y28.val.ref, .bool y28.gone] 261, blkA b #[sv7, .map (some mb8), iw (cnt S : Int)] 225, own SltT sv7 S, mpA vK nV mb8 m9, blkA g1 (vc k) 71] ?_
     refine hp_ 0 [0, 0, 0, 0, 2] (pB g30 0) ?_
     refine h_l 1 rfl [0, 0, 0, 0, 2] (fun _ => (t_loadA 0 (vc y28.key))) ?_
     refine hp_ 2 [0, 0, 0, 0, 2] (pB g30 5) ?_
     refine h_l 3 rfl [0, 0, 0, 0, 2] (fun _ => (t_loadA 0 (vc y28.val))) ?_
     refine h_stepS 4 ?_
     refine s_store 5 (vc y28.key) ?_
     refine s_nil (xs_held [0, 0, 0, 0, 2] ?_)
     refine h_stepS 5 ?_
     refine s_store 4 (vc y28.val) ?_
     refine s_nil (xs_held [0, 0, 0, 0, 2] ?_)
     refine hp_ 6 [0, 0, 0, 0, 2] (.bool true) ?_
     refine hp_ 7 [0, 0, 0, 0, 2] (iw 0) ?_
     refine h_doneS ?_
     refine xs_then <| k_ret <| xs_retBlock ?_
     refine xs_ret <| xs_ret <| xs_retBlock ?_
     refine xs_ret <| xs_mem (fun _ h => om_shut (S := S) (n := (cnt S : Int)) ⟨⟨hinv10, hag11⟩, rfl⟩ (h.re [1, 1, 1] [])) ?_
     have hr := next_found (a := (i16 + 1)) hi25.2 hy29 c32
     have hp : onext S k = (y28.key, y28.val, true, 0) := by rw [(onext_some (of_decide_eq_false c5) hl18)]; first | (rw [hr]; done) | (have hr0 : slotV (live S).head? = _ := hr; rw [hr0])
     refine xs_fin [.agg (vc y28.key), .agg (vc y28.val), .bool true, iw 0] (omA b S :: F) (SI.agg 4 71 3 (SI.agg 5 71 2 (SI.tmp 6 (SI.tmp 7 SI.nil)))) (fun _ h => h.re [0] [1, 1, 1, 1]) ⟨?_, rfl⟩
     rw [hp]; rfl
    ·
     have c33 := not_f c31
     refine k_skip ?_
     refine xs_block ?_
     refine xs_then <| k_reg ?_
     refine s_lt (t_add (j : Int) 1 (by (try simp only [lnm]); omega)) ?_
     refine sp (iw ((j : Int) + 1)) ?_
     refine s_nil ?_
     exact xs_round (j + 1) (by omega) ⟨by omega, live_gone_step hi25.2 hy29 c33⟩ (sub_of rfl ⟨⟨rfl, rfl⟩, ⟨⟨rfl, rfl⟩, ⟨⟨rfl, rfl⟩, ⟨⟨rfl, rfl⟩, ⟨⟨rfl, rfl⟩, trivial⟩⟩⟩⟩⟩) (fun _ h => h.re [1, 1, 1, 1, 1, 1] [6])
   ·
    have p34 := of_decide_eq_false c26
    refine k_exit ?_
    refine xs_exit ?_
    refine xs_exit ?_
    refine xs_here ?_
    refine xs_then <| k_sr <| s_lt (t_kern (.agg zc)) ?_
    refine s_lt (t_kern (.agg zc)) ?_
    refine s_store 4 zc ?_
    refine s_store 3 zc ?_
    refine sp (.bool false) ?_
    refine sp (iw 0) ?_
    refine s_nt <| k_ret <| xs_mem (fun _ h => om_shut (S := S) (n := (cnt S : Int)) ⟨⟨hinv10, hag11⟩, rfl⟩ (h.re [0, 0, 0] [])) ?_
    have hr := next_end (a := (i16 + 1)) hi25.2 (by (try simp only [lnm]); omega)
    have hp : onext S k = (zVl, zVl, false, 0) := by rw [(onext_some (of_decide_eq_false c5) hl18)]; first | (rw [hr]; done) | (have hr0 : slotV (live S).head? = _ := hr; rw [hr0])
    refine xs_fin [.agg zc, .agg zc, .bool false, iw 0] (omA b S :: F) (SI.agg 4 71 2 (SI.agg 5 71 1 (SI.tmp 6 (SI.tmp 7 SI.nil)))) (fun _ h => h.re [0] [1, 1, 1]) ⟨?_, rfl⟩
    rw [hp]; rfl
 ·
  have c35 := not_f c4
  have p36 := of_decide_eq_true c35
  refine k_st <| k_seq <| k_sr <| sp (pB b 0) ?_
  refine sp (pB b 0) ?_
  refine sp (pB b 0) ?_
  refine s_mem3 (fun H h => om_open (h.re [3] [])) (fun sv37 mb38 m39 hw => ?_)
  obtain ⟨hinv40, hag41⟩ := hw
  refine s_lt (t_load 0 sv37) ?_
  refine sp (iw 0) ?_
  refine s_lt (t_suf SltT_ok Tryz.underlying223 (.own 1) 0 0 (by omega) (by (try simp only [lnm]); omega) (by omega)) ?_
  refine s_lt (t_len SltT_ok Tryz.underlying223 (Acc.suf (.own 1) SltT_ok 0 (by (try simp only [lnm]); omega))) ?_
  refine sp (iw 0) ?_
  refine s_nt <| k_block ?_
  have hdl : (S.drop 0).length = S.length - 0 := List.length_drop
  refine k_loop (ι := Nat) (fun j => j ≤ (S.drop 0).length ∧ live ((S.drop 0).take j) = []) (fun j => [(4, pB g2 0), (5, pB g3 0), (40, (suf SltT.size sv37 0)), (41, iw ((S.drop 0).length : Int)), (42, iw (j : Int))]) (fun j => blkA b #[sv37, .map (some mb38), iw (cnt S : Int)] 225 :: own SltT sv37 S :: mpA vK nV mb38 m39 :: blkA g3 zc 71 :: blkA g2 zc 71 :: blkA g1 (vc k) 71 :: F) (fun j => (S.drop 0).length - j) 0 ⟨Nat.zero_le _, rfl⟩ (sub_of rfl ⟨⟨rfl, rfl⟩, ⟨⟨rfl, rfl⟩, ⟨⟨rfl, rfl⟩, ⟨⟨rfl, rfl⟩, ⟨⟨rfl, rfl⟩, trivial⟩⟩⟩⟩⟩) (fun _ h => h.re [0, 0, 0, 0, 0, 0] []) ?_
  rintro j hi42
  show SK _ _ _ _ _ [(4, .pointer (some ⟨g2, 0, none⟩)), (5, .pointer (some ⟨g3, 0, none⟩)), (40, (suf SltT.size sv37 0)), (41, iw ((S.drop 0).length : Int)), (42, iw (j : Int))] _ (blkA b #[sv37, .map (some mb38), iw (cnt S : Int)] 225 :: own SltT sv37 S :: mpA vK nV mb38 m39 :: blkA g3 zc 71 :: blkA g2 zc 71 :: blkA g1 (vc k) 71 :: F)
  refine k_sr <| s_lt t_cmp ?_
  refine s_nt <| k_seq <| k_cond (decide ((j : Int) < ((S.drop 0).length : Int))) (fun c43 => ?_) (fun c43 => ?_)
  ·
   have p44 := of_decide_eq_true c43
   refine k_st <| k_seq <| k_block ?_
   refine k_sr <| s_lt (t_index SltT_ok Tryz.underlying223 (Acc.suf (.own 1) SltT_ok 0 (by (try simp only [lnm]); omega)) (j : Int) j (by omega) (by (try simp only [lnm]); omega) (by omega)) ?_
   obtain ⟨y45, hy46⟩ : ∃ y, (S.drop 0)[j]? = some y := ⟨_, List.getElem?_eq_getElem (by (try simp only [lnm]); omega)⟩
   refine s_lt (t_loadE SltT_ok (Acc.suf (.own 1) SltT_ok 0 (by (try simp only [lnm]); omega)) hy46) ?_
   refine s_alloc (.agg #[iw 0, iw 0, iw 0, sw eb, iw 0, iw 0, iw 0, iw 0, sw eb, iw 0, .bool false]) #[iw 0, iw 0, iw 0, sw eb, iw 0, iw 0, iw 0, iw 0, sw eb, iw 0, .bool false] (fun g47 => ?_)
   refine s_store 0 #[iw y45.key.kind, iw y45.key.p, iw y45.key.q, sw y45.key.str, iw y45.key.ref, iw y45.val.kind, iw y45.val.p, iw y45.val.q, sw y45.val.str, iw y45.val.ref, .bool y45.gone] ?_
   refine s_nr ?_
   refine sp (pB g47 10) ?_
   refine s_lt (t_load 0 (.bool y45.gone)) ?_
   refine sp (.bool (!y45.gone)) ?_
   refine s_nt <| k_cond (!y45.gone) (fun c48 => ?_) (fun c48 => ?_)
   ·
    have c49 := not_t c48
    refine k_seq <| k_held [blkA g47 #[iw y45.key.kind, iw y45.key.p, iw y45.key.q, sw y45.key.str, iw y45.key.ref, iw y45.val.kind, iw y45.val.p, iw y45.val.q, sw y45.val.str, iw y45.val.ref, .bool y45.gone] 261, blkA b #[sv37, .map (some mb38), iw (cnt S : Int)] 225, own SltT sv37 S, mpA vK nV mb38 m39, blkA g1 (vc k) 71] ?_
    refine hp_ 0 [0, 0, 0, 0, 2] (pB g47 0) ?_
    refine h_l 1 rfl [0, 0, 0, 0, 2] (fun _ => (t_loadA 0 (vc y45.key))) ?_
    refine hp_ 2 [0, 0, 0, 0, 2] (pB g47 5) ?_
    refine h_l 3 rfl [0, 0, 0, 0, 2] (fun _ => (t_loadA 0 (vc y45.val))) ?_
    refine h_stepS 4 ?_
    refine s_store 5 (vc y45.key) ?_
    refine s_nil (xs_held [0, 0, 0, 0, 2] ?_)
    refine h_stepS 5 ?_
    refine s_store 4 (vc y45.val) ?_
    refine s_nil (xs_held [0, 0, 0, 0, 2] ?_)
    refine hp_ 6 [0, 0, 0, 0, 2] (.bool true) ?_
    refine hp_ 7 [0, 0, 0, 0, 2] (iw 0) ?_
    refine h_doneS ?_
    refine xs_then <| k_ret <| xs_retBlock ?_
    refine xs_ret <| xs_ret <| xs_retBlock ?_
    refine xs_ret <| xs_mem (fun _ h => om_shut (S := S) (n := (cnt S : Int)) ⟨⟨hinv40, hag41⟩, rfl⟩ (h.re [1, 1, 1] [])) ?_
    have hz : k = zVl := (of_decide_eq_true c35)
    subst hz
    have hr := next_found (a := 0) hi42.2 hy46 c49
    have hp : onext S zVl = (y45.key, y45.val, true, 0) := by rw [(onext_nil S)]; first | (rw [hr]; done) | (have hr0 : slotV (live S).head? = _ := hr; rw [hr0])
    refine xs_fin [.agg (vc y45.key), .agg (vc y45.val), .bool true, iw 0] (omA b S :: F) (SI.agg 4 71 3 (SI.agg 5 71 2 (SI.tmp 6 (SI.tmp 7 SI.nil)))) (fun _ h => h.re [0] [1, 1, 1, 1]) ⟨?_, rfl⟩
    rw [hp]; rfl
   ·
    have c50 := not_f c48
    refine k_skip ?_
    refine xs_block ?_
    refine xs_then <| k_reg ?_
    refine s_lt (t_add (j : Int) 1 (by (try simp only [lnm]); omega)) ?_
    refine sp (iw ((j : Int) + 1)) ?_
    refine s_nil ?_
    exact xs_round (j + 1) (by omega) ⟨by omega, live_gone_step hi42.2 hy46 c50⟩ (sub_of rfl ⟨⟨rfl, rfl⟩, ⟨⟨rfl, rfl⟩, ⟨⟨rfl, rfl⟩, ⟨⟨rfl, rfl⟩, ⟨⟨rfl, rfl⟩, trivial⟩⟩⟩⟩⟩) (fun _ h => h.re [1, 1, 1, 1, 1, 1] [6])
  ·
   have p51 := of_decide_eq_false c43
   refine k_exit ?_
   refine xs_exit ?_
   refine xs_exit ?_
   refine xs_here ?_
   refine xs_then <| k_sr <| s_lt (t_kern (.agg zc)) ?_
   refine s_lt (t_kern (.agg zc)) ?_
   refine s_store 4 zc ?_
   refine s_store 3 zc ?_
   refine sp (.bool false) ?_
   refine sp (iw 0) ?_
   refine s_nt <| k_ret <| xs_mem (fun _ h => om_shut (S := S) (n := (cnt S : Int)) ⟨⟨hinv40, hag41⟩, rfl⟩ (h.re [0, 0, 0] [])) ?_
   have hz : k = zVl := (of_decide_eq_true c35)
   subst hz
   have hr := next_end (a := 0) hi42.2 (by (try simp only [lnm]); omega)
   have hp : onext S zVl = (zVl, zVl, false, 0) := by rw [(onext_nil S)]; first | (rw [hr]; done) | (have hr0 : slotV (live S).head? = _ := hr; rw [hr0])
   refine xs_fin [.agg zc, .agg zc, .bool false, iw 0] (omA b S :: F) (SI.agg 4 71 2 (SI.agg 5 71 1 (SI.tmp 6 (SI.tmp 7 SI.nil)))) (fun _ h => h.re [0] [1, 1, 1]) ⟨?_, rfl⟩
   rw [hp]; rfl
theorem omslots_s {Z : Zone} {F : List Asr} {b : Nat} {S : List Slt} : SF Tryz.prog 208 #[.pointer (some ⟨b, 0, none⟩)] Z (omA b S :: F) fun r Bs => r = iw (S.length : Int) ∧ Bs = omA b S :: F := by
 refine sf_enter Tryz.func208 10 [(0, pB b 0)] (fun w0 => ?_)
 refine k_sr <| sp (iw 0) ?_
 refine s_nt <| k_seq <| k_sr <| sp (pB b 0) ?_
 refine sp (.bool false) ?_
 refine s_nt <| k_false ?_
 refine k_st <| k_sr <| sp (pB b 0) ?_
 refine sp (pB b 0) ?_
 refine sp (pB b 0) ?_
 refine s_mem3 (fun H h => om_open (h.re [0] [])) (fun sv1 mb2 m3 hw => ?_)
 obtain ⟨hinv4, hag5⟩ := hw
 refine s_lt (t_load 0 sv1) ?_
 refine s_lt (t_len SltT_ok Tryz.underlying223 (.own 1)) ?_
 refine sp (iw (S.length : Int)) ?_
 refine s_nt <| k_ret <| xs_mem (fun _ h => om_shut (S := S) (n := (cnt S : Int)) ⟨⟨hinv4, hag5⟩, rfl⟩ (h.re [0, 0, 0] [])) ?_
 refine xs_fin [iw (S.length : Int)] (omA b S :: F) (SI.tmp 2 SI.nil) (fun _ h => h.re [0] []) ⟨?_, rfl⟩
 rfl
theorem omkeys_s {Z : Zone} {F : List Asr} {b : Nat} {S : List Slt} (hs : S.length ≤ 1000000) : SF Tryz.prog 235 #[.pointer (some ⟨b, 0, none⟩)] Z (omA b S :: F) fun r Bs => Bs = own VlT r (okeys S) :: omA b S :: F := by
 refine sf_enter Tryz.func235 27 [(0, pB b 0)] (fun w0 => ?_)
 refine k_sr <| sp (.slice none 0 0) ?_
 refine s_nt <| k_seq <| k_sr <| sp (pB b 0) ?_
 refine sp (.bool false) ?_
 refine s_nt <| k_false ?_
 refine k_st <| k_sr <| sp (.slice none 0 0) ?_
 refine s_nt <| k_seq <| k_sr <| sp (pB b 0) ?_
 refine sp (pB b 0) ?_
 refine sp (pB b 0) ?_
 refine s_mem3 (fun H h => om_open (h.re [0] [])) (fun sv1 mb2 m3 hw => ?_)
 obtain ⟨hinv4, hag5⟩ := hw
 refine s_lt (t_load 0 sv1) ?_
 refine s_lt (t_len SltT_ok Tryz.underlying223 (.own 1)) ?_
 refine sp (iw 0) ?_
 refine s_nt <| k_block ?_
 refine k_mem (fun _ h => Holds.nilS (T := VlT) h) ?_
 refine k_mem (Bs := own VlT (.slice none 0 0) (okeys (S.take 0)) :: blkA b #[sv1, .map (some mb2), iw (cnt S : Int)] 225 :: own SltT sv1 S :: mpA vK nV mb2 m3 :: F) (fun _ h => h) ?_
 refine k_loop (ι := Value × Nat) (fun (lx, i) => i ≤ S.length) (fun (lx, i) => [(3, lx), (11, sv1), (12, iw (S.length : Int)), (13, iw (i : Int))]) (fun (lx, i) => own VlT lx (okeys (S.take i)) :: blkA b #[sv1, .map (some mb2), iw (cnt S : Int)] 225 :: own SltT sv1 S :: mpA vK nV mb2 m3 :: F) (fun (lx, i) => S.length - i) ((.slice none 0 0), 0) (Nat.zero_le _) (sub_of rfl ⟨⟨rfl, rfl⟩, ⟨⟨rfl, rfl⟩, ⟨⟨rfl, rfl⟩, ⟨⟨rfl, rfl⟩, trivial⟩⟩⟩⟩) (fun _ h => h.re [0, 0, 0, 0] []) ?_
 rintro ⟨lx, i⟩ hi6
 replace hi6 : i ≤ S.length := hi6
 show SK _ _ _ _ _ [(3, lx), (11, sv1), (12, iw (S.length : Int)), (13, iw (i : Int))] _ (own VlT lx (okeys (S.take i)) :: blkA b #[sv1, .map (some mb2), iw (cnt S : Int)] 225 :: own SltT sv1 S :: mpA vK nV mb2 m3 :: F)
 have hli : (okeys (S.take i)).length ≤ i := Nat.le_trans (okeys_len _) (by rw [List.length_take]; omega)
 refine k_sr <| s_lt t_cmp ?_
 refine s_nt <| k_seq <| k_cond (decide ((i : Int) < (S.length : Int))) (fun c7 => ?_) (fun c7 => ?_)
 ·
  have p8 := of_decide_eq_true c7
  refine k_st <| k_seq <| k_block ?_
  refine k_sr <| s_lt (t_index SltT_ok Tryz.underlying223 (.own 2) (i : Int) i (by omega) (by (try simp only [lnm]); omega) (by omega)) ?_
  obtain ⟨y9, hy10⟩ : ∃ y, S[i]? = some y := ⟨_, List.getElem?_eq_getElem (by (try simp only [lnm]); omega)⟩
  refine s_lt (t_loadE SltT_ok (.own 2) hy10) ?_
  refine s_alloc (.agg #[iw 0, iw 0, iw 0, sw eb, iw 0, iw 0, iw 0, iw 0, sw eb, iw 0, .bool false]) #[iw 0, iw 0, iw 0, sw eb, iw 0, iw 0, iw 0, iw 0, sw eb, iw 0, .bool false] (fun g11 => ?_)
  refine s_store 0 #[iw y9.key.kind, iw y9.key.p, iw y9.key.q, sw y9.key.str, iw y9.key.ref, iw y9.val.kind, iw y9.val.p, iw y9.val.q, sw y9.val.str, iw y9.val.ref, .bool y9.gone] ?_
  refine s_nr ?_
  refine sp (pB g11 10) ?_
  refine s_lt (t_load 0 (.bool y9.gone)) ?_
  refine sp (.bool (!y9.gone)) ?_
  refine s_nt <| k_cond (!y9.gone) (fun c12 => ?_) (fun c12 => ?_)
  ·
   have c13 := not_t c12
   refine k_reg ?_
   refine sp lx ?_
   refine sp (pB g11 0) ?_
   refine s_lt (t_loadA 0 (vc y9.key)) ?_
   refine s_buildSlice (e := 71) [(0, .agg (vc y9.key))] (vc y9.key) (fun g14 => ?_) (hb := by kernel_rfl)
   refine s_append (L := (okeys (S.take i))) 2 VlT_ok Tryz.underlying28 (.lit 0 VlT_ok [y9.key]) (by show _ * 48 ≤ _; (try simp only [lnm]); omega) (by (try simp only [lnm]); omega) (fun v15 => ?_)
   refine sp v15 ?_
   refine s_nil <| xs_block ?_
   refine xs_then <| k_reg ?_
   refine s_lt (t_add (i : Int) 1 (by (try simp only [lnm]); omega)) ?_
   refine sp (iw ((i : Int) + 1)) ?_
   refine s_nil ?_
   have hks := okeys_step hy10
   rw [if_neg (by rw [c13]; decide)] at hks
   rw [← hks]
   exact xs_round (v15, i + 1) (by show S.length - (i + 1) < S.length - i; omega) (by show i + 1 ≤ S.length; omega) (sub_of rfl ⟨⟨rfl, rfl⟩, ⟨⟨rfl, rfl⟩, ⟨⟨rfl, rfl⟩, ⟨⟨rfl, rfl⟩, trivial⟩⟩⟩⟩) (fun _ h => h.re [2, 2, 2, 2] [4, 4])
  ·
   have c16 := not_f c12
   refine k_skip ?_
   refine xs_block ?_
   refine xs_then <| k_reg ?_
   refine s_lt (t_add (i : Int) 1 (by (try simp only [lnm]); omega)) ?_
   refine sp (iw ((i : Int) + 1)) ?_
   refine s_nil ?_
   have hks := okeys_step hy10
   rw [if_pos c16] at hks
   rw [← hks]
   exact xs_round (lx, i + 1) (by show S.length - (i + 1) < S.length - i; omega) (by show i + 1 ≤ S.length; omega) (sub_of rfl ⟨⟨rfl, rfl⟩, ⟨⟨rfl, rfl⟩, ⟨⟨rfl, rfl⟩, ⟨⟨rfl, rfl⟩, trivial⟩⟩⟩⟩) (fun _ h => h.re [1, 1, 1, 1] [4])
 ·
  have p17 := of_decide_eq_false c7
  refine k_exit ?_
  refine xs_exit ?_
  refine xs_exit ?_
  refine xs_here ?_
  refine xs_then <| k_sr <| sp lx ?_
  refine sp lx ?_
  refine s_nt <| k_ret <| xs_mem (fun _ h => om_shut (S := S) (n := (cnt S : Int)) ⟨⟨hinv4, hag5⟩, rfl⟩ (h.re [1, 1, 1] [])) ?_
  have hend : okeys (S.take i) = okeys S := by rw [List.take_of_length_le (by omega)]
  rw [hend]
  exact xs_fin [lx] (own VlT lx (okeys S) :: omA b S :: F) (SI.tmp 2 SI.nil) (fun _ h => h.re [1, 0] []) rfl
end Go.Proofs.YtmhpcebiamkciaaGreat
end
