/-
  Slices in memory as lists: what 'len', an index, a load, a store, a cut and 'append' do. Each law says its conditions.
-/
import Derived.WalkKit
import Derived.WalkSpells
set_option linter.unusedSimpArgs false
set_option linter.unusedVariables false
namespace Go.Mem
open Go.RowKit

/-! ### What may have turned -/
/-- Of the blocks that were there, those of S alone may have turned. -/
structure Chg (S : Nat → Prop) (w w' : World) : Prop where
  os : w'.os = w.os
  tape : w'.tape = w.tape
  output : w'.output = w.output
  size : w.heap.size ≤ w'.heap.size
  block : ∀ k, k < w.heap.size → ¬ S k → w'.heap[k]? = w.heap[k]?
section
variable {S T : Nat → Prop} {a b c w w' : World}
theorem Chg.refl (S : Nat → Prop) (w : World) : Chg S w w := ⟨rfl, rfl, rfl, Nat.le_refl _, fun _ _ _ => rfl⟩
theorem Chg.trans (h : Chg S a b) (k : Chg S b c) : Chg S a c :=
  ⟨k.os.trans h.os, k.tape.trans h.tape, k.output.trans h.output, Nat.le_trans h.size k.size, fun i hi hS => (k.block i (Nat.lt_of_lt_of_le hi h.size) hS).trans (h.block i hi hS)⟩
/-- The second step may also turn what the first one made. -/
theorem Chg.trans' (h : Chg S a b) (k : Chg T b c) (hT : ∀ i, T i → i < a.heap.size → S i) : Chg S a c :=
  ⟨k.os.trans h.os, k.tape.trans h.tape, k.output.trans h.output, Nat.le_trans h.size k.size, fun i hi hS => (k.block i (Nat.lt_of_lt_of_le hi h.size) fun ht => hS (hT i ht hi)).trans (h.block i hi hS)⟩
theorem Chg.mono (h : Chg S w w') (hS : ∀ i, S i → T i) : Chg T w w' := ⟨h.os, h.tape, h.output, h.size, fun k hk ht => h.block k hk fun hs => ht (hS k hs)⟩
theorem Chg.drew (h : Chg S a w) : Chg S a w.drew := ⟨h.os, h.tape, h.output, h.size, h.block⟩
theorem Chg.alloc (h : Chg S a w) (o : Obj) : Chg S a (w.alloc o) :=
  h.trans ⟨rfl, rfl, rfl, by simp, fun k hk _ => Below.heap_alloc _ _ _ hk⟩
theorem Chg.setCell (h : Chg S a w) {p : Addr} (hp : p.block < a.heap.size → S p.block) (u : Value) : Chg S a (w.setCell p u) := by
  refine h.trans' (T := fun k => k = p.block) ⟨rfl, rfl, rfl, by simp [World.setCell], fun k _ hk => Below.heap_setCell _ _ _ _ hk⟩ ?_
  rintro i rfl hi
  exact hp hi
theorem Chg.of_below (h : Below a.heap.size a w) : Chg S a w := ⟨h.os, h.tape, h.output, h.size, fun k hk _ => h.block k hk⟩
theorem Chg.below (h : Chg S a w) (hS : ∀ k, S k → a.heap.size ≤ k) : Below a.heap.size a w :=
  ⟨h.os, h.tape, h.output, h.size, fun k hk => h.block k hk fun hs => by have := hS k hs; omega⟩
theorem Chg.of_grown {row : Option Nat} (h : a.grownBy w row) : Chg (fun k => row = some k) a w := ⟨h.os, h.tape, h.output, h.size, fun k hk hS => h.block k hk fun e => hS e.symm⟩
theorem Chg.heap (h : Chg S w w') {k : Nat} {o : Obj} (hk : w.heap[k]? = some o) (hS : ¬ S k) : w'.heap[k]? = some o :=
  (h.block k (Array.getElem?_eq_some_iff.1 hk).1 hS).trans hk
theorem Chg.cell (h : Chg S w w') {p : Addr} {v : Value} (hc : w.cell? p = some v) (hS : ¬ S p.block) : w'.cell? p = some v :=
  (World.cell?_of_block (h.block p.block (World.block_lt_of_cell? w p hc) hS)).trans hc
/-- For the walk: the cells of a block that has not turned. -/
theorem Chg.cells (h : Chg S w w') (g : Nat) (hS : ¬ S g) : ∀ o, (w.cell? ⟨g, o, none⟩).isSome = true → w'.cell? ⟨g, o, none⟩ = w.cell? ⟨g, o, none⟩ := fun o ho => by
  obtain ⟨u, hu⟩ := Option.isSome_iff_exists.1 ho
  rw [hu]; exact h.cell hu hS
theorem Chg.frozens (h : Chg S w w') (g : Nat) (hS : ¬ S g) : ∀ o, (w.cell? ⟨g, o, none⟩).isSome = true → w'.frozen? ⟨g, o, none⟩ = w.frozen? ⟨g, o, none⟩ := fun o ho => by
  obtain ⟨u, hu⟩ := Option.isSome_iff_exists.1 ho
  exact World.frozen?_of_block (h.block g (World.block_lt_of_cell? w _ hu) hS)
end
theorem cell_alloc (w : World) (a : Addr) (o : Obj) (h : (w.cell? a).isSome = true) : (w.alloc o).cell? a = w.cell? a := by
  obtain ⟨u, hu⟩ := Option.isSome_iff_exists.1 h
  exact World.cell?_alloc_lt _ _ _ (World.block_lt_of_cell? w a hu)
theorem frozen_alloc (w : World) (a : Addr) (o : Obj) (h : (w.cell? a).isSome = true) : (w.alloc o).frozen? a = w.frozen? a := by
  obtain ⟨u, hu⟩ := Option.isSome_iff_exists.1 h
  exact World.frozen?_of_block (Below.heap_alloc _ _ _ (World.block_lt_of_cell? w a hu))

/-! ### Types of elements -/
/-- An element type: its number, its cells, and how a datum stands as a value. -/
structure Ty (α : Type) where
  id : TypeId
  size : Nat
  bytes : Nat
  agg : Bool
  val : α → Value
  zero : α
def Ty.enc {α : Type} (T : Ty α) (x : α) : List Value := (T.val x).cells.toList
def aggDesc : TypeDesc → Bool
  | .struct _ | .array _ _ => true
  | _ => false
/-- What is so of the type in the program. -/
structure Ty.Ok {α : Type} (T : Ty α) (P : Program) : Prop where
  pos : 0 < T.size
  len : ∀ x, (T.enc x).length = T.size
  one : ∀ x, ∀ u ∈ T.enc x, u.oneCell' = true
  val : ∀ x, T.val x = if T.agg then .agg (T.enc x).toArray else (T.enc x).headD undef
  desc : ∃ d, P.underlying T.id = some d ∧ aggDesc d = T.agg
  one1 : T.agg = false → T.size = 1
  info : ∃ i, P.info? T.id = some i ∧ i.size = T.size ∧ i.bytes = T.bytes ∧ i.zero = some (T.val T.zero)

section
variable {α : Type} {T : Ty α} {P : Program}
def Ty.flat (T : Ty α) (L : List α) : List Value := L.flatMap T.enc
theorem Ty.Ok.flat_len (h : T.Ok P) : ∀ L : List α, (T.flat L).length = L.length * T.size
  | [] => by simp [Ty.flat]
  | x :: r => by
    have := h.flat_len r
    unfold Ty.flat at *
    simp only [List.flatMap_cons, List.length_append, List.length_cons, h.len, this, Nat.add_mul]; omega
theorem Ty.flat_append (L M : List α) : T.flat (L ++ M) = T.flat L ++ T.flat M := by simp [Ty.flat]
theorem Ty.flat_one (x : α) : T.flat [x] = T.enc x := by simp [Ty.flat]
theorem Ty.Ok.flat_one1 (h : T.Ok P) (L : List α) : ∀ u ∈ T.flat L, u.oneCell' = true := by
  intro u hu
  obtain ⟨x, _, hx⟩ := List.mem_flatMap.1 hu
  exact h.one x u hx
theorem Ty.Ok.flat_take (h : T.Ok P) (n : Nat) : ∀ L : List α, (T.flat L).take (n * T.size) = T.flat (L.take n) := by
  induction n with
  | zero => intro L; simp [Ty.flat]
  | succ n ih =>
    intro L
    cases L with
    | nil => simp [Ty.flat]
    | cons x r =>
      have e : (n + 1) * T.size = T.size + n * T.size := by rw [Nat.add_mul]; omega
      have h1 := ih r
      unfold Ty.flat at *
      simp only [List.flatMap_cons, List.take_succ_cons]
      rw [e, ← h.len x, List.take_length_add_append, h.len x, h1]
theorem Ty.Ok.flat_drop (h : T.Ok P) (n : Nat) : ∀ L : List α, (T.flat L).drop (n * T.size) = T.flat (L.drop n) := by
  induction n with
  | zero => intro L; simp [Ty.flat]
  | succ n ih =>
    intro L
    cases L with
    | nil => simp [Ty.flat]
    | cons x r =>
      have e : (n + 1) * T.size = T.size + n * T.size := by rw [Nat.add_mul]; omega
      have h1 := ih r
      unfold Ty.flat at *
      simp only [List.flatMap_cons, List.drop_succ_cons]
      rw [e, ← h.len x, List.drop_length_add_append, h.len x, h1]
/-- Cell j of element k. -/
theorem Ty.Ok.flat_get (h : T.Ok P) {L : List α} {k : Nat} {x : α} (hk : L[k]? = some x) {j : Nat} (hj : j < T.size) : (T.flat L)[k * T.size + j]? = (T.enc x)[j]? := by
  have h1 := h.flat_drop k L
  have h2 : L.drop k = x :: L.drop (k + 1) := by
    obtain ⟨hlt, rfl⟩ := List.getElem?_eq_some_iff.1 hk
    exact List.drop_eq_getElem_cons hlt
  rw [← List.getElem?_drop, h1, h2]
  unfold Ty.flat
  rw [List.flatMap_cons, List.getElem?_append_left (by rw [h.len]; exact hj)]

/-! ### Slices -/
/-- The slice v reads as the list L. -/
def Sl (w : World) (T : Ty α) (v : Value) (L : List α) : Prop :=
  ((∃ p, v = .slice p 0 0) ∧ L = []) ∨
  ∃ g off cap arr e fr, v = .slice (some ⟨g, off, none⟩) L.length cap ∧ w.heap[g]? = some (.cells arr e fr) ∧ L.length ≤ cap ∧ cap ≤ maxLen ∧ (0 < cap → off + cap * T.size ≤ arr.size) ∧
    (arr.toList.drop off).take (L.length * T.size) = T.flat L
/-- .. and may be written, from its block's head on. -/
def Ow (w : World) (T : Ty α) (v : Value) (L : List α) : Prop :=
  (v = .slice none 0 0 ∧ L = []) ∨
  ∃ g cap arr, v = .slice (some ⟨g, 0, none⟩) L.length cap ∧ w.heap[g]? = some (.cells arr T.id (0, 0)) ∧ L.length ≤ cap ∧ cap ≤ maxLen ∧ cap * T.size ≤ arr.size ∧
    arr.toList.take (L.length * T.size) = T.flat L
/-- The block of a slice. -/
def blk (v : Value) : Option Nat := v.ownBlock
variable {w w' : World} {v : Value} {L : List α}
theorem Ow.sl (h : Ow w T v L) : Sl w T v L := by
  rcases h with h | ⟨g, cap, arr, rfl, h1, h2, h3, h4, h5⟩
  · exact .inl ⟨⟨none, h.1⟩, h.2⟩
  · exact .inr ⟨g, 0, cap, arr, _, _, rfl, h1, h2, h3, by omega, by simpa using h5⟩
theorem Sl.nil (w : World) (T : Ty α) : Sl w T (.slice none 0 0) [] := .inl ⟨⟨none, rfl⟩, rfl⟩
theorem Ow.nil (w : World) (T : Ty α) : Ow w T (.slice none 0 0) [] := .inl ⟨rfl, rfl⟩
theorem Sl.kept (h : Sl w T v L) (hb : ∀ g, blk v = some g → w'.heap[g]? = w.heap[g]?) : Sl w' T v L := by
  rcases h with h | ⟨g, off, cap, arr, e, fr, rfl, h1, r⟩
  · exact .inl h
  · exact .inr ⟨g, off, cap, arr, e, fr, rfl, by rw [hb g rfl]; exact h1, r⟩
theorem Ow.kept (h : Ow w T v L) (hb : ∀ g, blk v = some g → w'.heap[g]? = w.heap[g]?) : Ow w' T v L := by
  rcases h with h | ⟨g, cap, arr, rfl, h1, r⟩
  · exact .inl h
  · exact .inr ⟨g, cap, arr, rfl, by rw [hb g rfl]; exact h1, r⟩
theorem Ow.lt (h : Ow w T v L) {g : Nat} (hg : blk v = some g) : g < w.heap.size := by
  rcases h with ⟨rfl, _⟩ | ⟨g', cap, arr, rfl, h1, r⟩
  · simp [blk, Value.ownBlock] at hg
  · simp [blk, Value.ownBlock] at hg
    subst hg
    exact (Array.getElem?_eq_some_iff.1 h1).1
theorem Sl.kept' (h : Sl w T v L) (hb : ∀ g, blk v = some g → g < w.heap.size → w'.heap[g]? = w.heap[g]?) : Sl w' T v L := by
  rcases h with h | ⟨g, off, cap, arr, e, fr, rfl, h1, r⟩
  · exact .inl h
  · exact .inr ⟨g, off, cap, arr, e, fr, rfl, by rw [hb g rfl (Array.getElem?_eq_some_iff.1 h1).1]; exact h1, r⟩
theorem Sl.alloc (h : Sl w T v L) (o : Obj) : Sl (w.alloc o) T v L := h.kept' fun _ _ hl => Below.heap_alloc _ _ _ hl
theorem Ow.alloc (h : Ow w T v L) (o : Obj) : Ow (w.alloc o) T v L := h.kept fun _ hg => Below.heap_alloc _ _ _ (h.lt hg)
theorem Sl.drew (h : Sl w T v L) : Sl w.drew T v L := h
theorem Ow.drew (h : Ow w T v L) : Ow w.drew T v L := h
theorem Sl.setCell (h : Sl w T v L) {p : Addr} (hp : blk v ≠ some p.block) (u : Value) : Sl (w.setCell p u) T v L := h.kept fun g hg => Below.heap_setCell _ _ _ _ fun e => hp (by rw [hg, e])
theorem Ow.setCell (h : Ow w T v L) {p : Addr} (hp : blk v ≠ some p.block) (u : Value) : Ow (w.setCell p u) T v L := h.kept fun g hg => Below.heap_setCell _ _ _ _ fun e => hp (by rw [hg, e])
theorem Sl.chg {S : Nat → Prop} (h : Sl w T v L) (c : Chg S w w') (hS : ∀ g, blk v = some g → ¬ S g) : Sl w' T v L := h.kept' fun g hg hl => c.block g hl (hS g hg)
theorem Ow.chg {S : Nat → Prop} (h : Ow w T v L) (c : Chg S w w') (hS : ∀ g, blk v = some g → ¬ S g) : Ow w' T v L := h.kept fun g hg => c.block g (h.lt hg) (hS g hg)
theorem Sl.len_le (h : Sl w T v L) : L.length ≤ 9223372036854775807 := by
  rcases h with ⟨_, rfl⟩ | ⟨g, off, cap, arr, e, fr, rfl, h1, h2, h3, _⟩
  · simp
  · have : cap ≤ 9223372036854775807 := by simpa [maxLen] using h3
    omega
theorem Sl.form (h : Sl w T v L) : ∃ p cap, v = .slice p L.length cap := by
  rcases h with ⟨⟨p, rfl⟩, rfl⟩ | ⟨g, off, cap, arr, e, fr, rfl, _⟩
  · exact ⟨_, _, rfl⟩
  · exact ⟨_, _, rfl⟩

/-- The place of element k. -/
def elemAt (size : Nat) (v : Value) (k : Nat) : Addr :=
  match v with
  | .slice (some p) _ _ => p.add (k * size)
  | _ => ⟨0, 0, none⟩
theorem addr_add (g off k : Nat) : (⟨g, off, none⟩ : Addr).add k = ⟨g, off + k, none⟩ := by unfold Addr.add; split <;> simp_all
theorem addr_add_add (p : Addr) (hp : p.spot = none) (i j : Nat) : (p.add i).add j = p.add (i + j) := by
  obtain ⟨g, off, sp⟩ := p
  simp only at hp
  subst hp
  simp only [addr_add, Nat.add_assoc]
/-- The cells of element k. -/
theorem Sl.cell (h : Sl w T v L) (hT : T.Ok P) {k : Nat} {x : α} (hk : L[k]? = some x) {j : Nat} {u : Value} (hj : (T.enc x)[j]? = some u) : w.cell? ((elemAt T.size v k).add j) = some u := by
  have hjs : j < T.size := by rw [← hT.len x]; exact (List.getElem?_eq_some_iff.1 hj).1
  rcases h with ⟨_, rfl⟩ | ⟨g, off, cap, arr, e, fr, rfl, h1, h2, h3, h4, h5⟩
  · simp at hk
  · have h6 := hT.flat_get hk hjs
    rw [hj, ← h5, List.getElem?_take] at h6
    split at h6
    · rw [List.getElem?_drop] at h6
      simp only [elemAt, addr_add]
      rw [cell_of_row w g _ arr e fr h1, ← Array.getElem?_toList, ← h6, Nat.add_assoc]
    · cases h6
theorem Sl.elem_spot (h : Sl w T v L) {k : Nat} (hk : k < L.length) : (elemAt T.size v k).spot = none := by
  rcases h with ⟨_, rfl⟩ | ⟨g, off, cap, arr, e, fr, rfl, _⟩
  · simp at hk
  · simp only [elemAt, addr_add]
theorem Sl.elem_block (h : Sl w T v L) {k : Nat} (hk : k < L.length) : blk v = some (elemAt T.size v k).block := by
  rcases h with ⟨_, rfl⟩ | ⟨g, off, cap, arr, e, fr, rfl, _⟩
  · simp at hk
  · simp only [elemAt, addr_add, blk, Value.ownBlock]
end
end Go.Mem
