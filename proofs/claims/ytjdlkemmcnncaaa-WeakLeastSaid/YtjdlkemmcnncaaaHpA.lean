/-
  Memory as an array of blocks: what may have turned; slices as lists. Each law says its conditions.
-/
import Derived.Test.YtjdlkemmcnncaaaMapB
set_option linter.unusedSimpArgs false
set_option linter.unusedVariables false
set_option linter.unusedSectionVars false
namespace Go.Hp
open Go.RowKit
open Go.Mem (Ty KTy blk elemAt addr_add addr_add_add pre suf blk_pre blk_suf aget aset adel apos Stamps)

abbrev Heap := Array Obj

/-! ### What may have turned -/
/-- Of the blocks that were there, those of S alone may have turned. -/
structure Chg (S : Nat → Prop) (H H' : Heap) : Prop where
  size : H.size ≤ H'.size
  block : ∀ k, k < H.size → ¬ S k → H'[k]? = H[k]?
section
variable {S T : Nat → Prop} {A B C H H' : Heap}
theorem Chg.refl (S : Nat → Prop) (H : Heap) : Chg S H H := ⟨Nat.le_refl _, fun _ _ _ => rfl⟩
theorem Chg.trans (h : Chg S A B) (k : Chg S B C) : Chg S A C :=
  ⟨Nat.le_trans h.size k.size, fun i hi hS => (k.block i (Nat.lt_of_lt_of_le hi h.size) hS).trans (h.block i hi hS)⟩
/-- The second step may also turn what the first one made. -/
theorem Chg.trans' (h : Chg S A B) (k : Chg T B C) (hT : ∀ i, T i → i < A.size → S i) : Chg S A C :=
  ⟨Nat.le_trans h.size k.size, fun i hi hS => (k.block i (Nat.lt_of_lt_of_le hi h.size) fun ht => hS (hT i ht hi)).trans (h.block i hi hS)⟩
theorem Chg.mono (h : Chg S H H') (hS : ∀ i, i < H.size → S i → T i) : Chg T H H' := ⟨h.size, fun k hk ht => h.block k hk fun hs => ht (hS k hk hs)⟩
theorem lt_of_some {k : Nat} {o : Obj} (h : H[k]? = some o) : k < H.size := (Array.getElem?_eq_some_iff.1 h).1
theorem Chg.get (h : Chg S H H') {k : Nat} {o : Obj} (hk : H[k]? = some o) (hS : ¬ S k) : H'[k]? = some o := (h.block k (lt_of_some hk) hS).trans hk
theorem Chg.push (H : Heap) (o : Obj) (S : Nat → Prop) : Chg S H (H.push o) := ⟨by simp, fun k hk _ => by rw [Array.getElem?_push, if_neg (by omega)]⟩
theorem Chg.set (H : Heap) (g : Nat) (o : Obj) : Chg (fun k => k = g) H (H.setIfInBounds g o) := ⟨by simp, fun k _ hk => by rw [Array.getElem?_setIfInBounds_ne (fun h => hk h.symm)]⟩
theorem get_push (H : Heap) (o : Obj) : (H.push o)[H.size]? = some o := by simp
theorem get_set {g : Nat} {x : Obj} (h : H[g]? = some x) (o : Obj) : (H.setIfInBounds g o)[g]? = some o := by
  have := lt_of_some h
  simp [this]
end

section
variable {α : Type} {T : Ty α} {P : Program}
/-! ### Slices -/
/-- The slice v reads as the list L. -/
def Sl (H : Heap) (T : Ty α) (v : Value) (L : List α) : Prop :=
  ((∃ p, v = .slice p 0 0) ∧ L = []) ∨
  ∃ g off cap arr e fr, v = .slice (some ⟨g, off, none⟩) L.length cap ∧ H[g]? = some (.cells arr e fr) ∧ L.length ≤ cap ∧ cap ≤ maxLen ∧ (0 < cap → off + cap * T.size ≤ arr.size) ∧
    (arr.toList.drop off).take (L.length * T.size) = T.flat L
/-- .. and may be written, from its block's head on. -/
def Ow (H : Heap) (T : Ty α) (v : Value) (L : List α) : Prop :=
  (v = .slice none 0 0 ∧ L = []) ∨
  ∃ g cap arr, v = .slice (some ⟨g, 0, none⟩) L.length cap ∧ H[g]? = some (.cells arr T.id (0, 0)) ∧ L.length ≤ cap ∧ cap ≤ maxLen ∧ cap * T.size ≤ arr.size ∧
    arr.toList.take (L.length * T.size) = T.flat L
variable {H H' : Heap} {v : Value} {L : List α}
theorem Ow.sl (h : Ow H T v L) : Sl H T v L := by
  rcases h with h | ⟨g, cap, arr, rfl, h1, h2, h3, h4, h5⟩
  · exact .inl ⟨⟨none, h.1⟩, h.2⟩
  · exact .inr ⟨g, 0, cap, arr, _, _, rfl, h1, h2, h3, by omega, by simpa using h5⟩
theorem Sl.nil (H : Heap) (T : Ty α) : Sl H T (.slice none 0 0) [] := .inl ⟨⟨none, rfl⟩, rfl⟩
theorem Ow.nil (H : Heap) (T : Ty α) : Ow H T (.slice none 0 0) [] := .inl ⟨rfl, rfl⟩
theorem Sl.kept (h : Sl H T v L) (hb : ∀ g, blk v = some g → H'[g]? = H[g]?) : Sl H' T v L := by
  rcases h with h | ⟨g, off, cap, arr, e, fr, rfl, h1, r⟩
  · exact .inl h
  · exact .inr ⟨g, off, cap, arr, e, fr, rfl, by rw [hb g rfl]; exact h1, r⟩
theorem Ow.kept (h : Ow H T v L) (hb : ∀ g, blk v = some g → H'[g]? = H[g]?) : Ow H' T v L := by
  rcases h with h | ⟨g, cap, arr, rfl, h1, r⟩
  · exact .inl h
  · exact .inr ⟨g, cap, arr, rfl, by rw [hb g rfl]; exact h1, r⟩
theorem Ow.lt (h : Ow H T v L) {g : Nat} (hg : blk v = some g) : g < H.size := by
  rcases h with ⟨rfl, _⟩ | ⟨g', cap, arr, rfl, h1, r⟩
  · simp [blk, Value.ownBlock] at hg
  · simp [blk, Value.ownBlock] at hg
    subst hg
    exact (Array.getElem?_eq_some_iff.1 h1).1
theorem Sl.kept' (h : Sl H T v L) (hb : ∀ g, blk v = some g → g < H.size → H'[g]? = H[g]?) : Sl H' T v L := by
  rcases h with h | ⟨g, off, cap, arr, e, fr, rfl, h1, r⟩
  · exact .inl h
  · exact .inr ⟨g, off, cap, arr, e, fr, rfl, by rw [hb g rfl (Array.getElem?_eq_some_iff.1 h1).1]; exact h1, r⟩
theorem Sl.chg {S : Nat → Prop} (h : Sl H T v L) (c : Chg S H H') (hS : ∀ g, blk v = some g → ¬ S g) : Sl H' T v L := h.kept' fun g hg hl => c.block g hl (hS g hg)
theorem Ow.chg {S : Nat → Prop} (h : Ow H T v L) (c : Chg S H H') (hS : ∀ g, blk v = some g → ¬ S g) : Ow H' T v L := h.kept fun g hg => c.block g (h.lt hg) (hS g hg)
theorem Sl.len_le (h : Sl H T v L) : L.length ≤ 9223372036854775807 := by
  rcases h with ⟨_, rfl⟩ | ⟨g, off, cap, arr, e, fr, rfl, h1, h2, h3, _⟩
  · simp
  · have : cap ≤ 9223372036854775807 := by simpa [maxLen] using h3
    omega
theorem Sl.form (h : Sl H T v L) : ∃ p cap, v = .slice p L.length cap := by
  rcases h with ⟨⟨p, rfl⟩, rfl⟩ | ⟨g, off, cap, arr, e, fr, rfl, _⟩
  · exact ⟨_, _, rfl⟩
  · exact ⟨_, _, rfl⟩

/-- A cell. -/
def cellH (H : Heap) (p : Addr) : Option Value :=
  match H[p.block]? with
  | some (.cells c _ _) => if p.spot.isSome then none else c[p.off]?
  | _ => none
theorem cell_eq (w : World) (p : Addr) : w.cell? p = cellH w.heap p := rfl
theorem cellH_row {g j : Nat} {arr : Array Value} {e : TypeId} {fr : Nat × Nat} (h : H[g]? = some (.cells arr e fr)) : cellH H ⟨g, j, none⟩ = arr[j]? := by simp [cellH, h]
/-- The cells of element k. -/
theorem Sl.cell (h : Sl H T v L) (hT : T.Ok P) {k : Nat} {x : α} (hk : L[k]? = some x) {j : Nat} {u : Value} (hj : (T.enc x)[j]? = some u) : cellH H ((elemAt T.size v k).add j) = some u := by
  have hjs : j < T.size := by rw [← hT.len x]; exact (List.getElem?_eq_some_iff.1 hj).1
  rcases h with ⟨_, rfl⟩ | ⟨g, off, cap, arr, e, fr, rfl, h1, h2, h3, h4, h5⟩
  · simp at hk
  · have h6 := hT.flat_get hk hjs
    rw [hj, ← h5, List.getElem?_take] at h6
    split at h6
    · rw [List.getElem?_drop] at h6
      simp only [elemAt, addr_add]
      rw [cellH_row h1, ← Array.getElem?_toList, ← h6, Nat.add_assoc]
    · cases h6
theorem Sl.elem_spot (h : Sl H T v L) {k : Nat} (hk : k < L.length) : (elemAt T.size v k).spot = none := by
  rcases h with ⟨_, rfl⟩ | ⟨g, off, cap, arr, e, fr, rfl, _⟩
  · simp at hk
  · simp only [elemAt, addr_add]
theorem Sl.elem_block (h : Sl H T v L) {k : Nat} (hk : k < L.length) : blk v = some (elemAt T.size v k).block := by
  rcases h with ⟨_, rfl⟩ | ⟨g, off, cap, arr, e, fr, rfl, _⟩
  · simp at hk
  · simp only [elemAt, addr_add, blk, Value.ownBlock]

theorem Sl.of_mem {w : World} (h : Mem.Sl w T v L) : Sl w.heap T v L := h
theorem Sl.mem {w : World} (h : Sl w.heap T v L) : Mem.Sl w T v L := h
theorem Ow.of_mem {w : World} (h : Mem.Ow w T v L) : Ow w.heap T v L := h
theorem Ow.mem {w : World} (h : Ow w.heap T v L) : Mem.Ow w T v L := h
theorem Chg.of_mem {S : Nat → Prop} {w w' : World} (h : Mem.Chg S w w') : Chg S w.heap w'.heap := ⟨h.size, h.block⟩
/-- The new slice lies where the old one lay, or in new memory. -/
def Moved (H : Heap) (v v' : Value) : Prop := ∀ g, blk v' = some g → blk v = some g ∨ H.size ≤ g
theorem Ow.pre (hv : Ow H T v L) (hT : T.Ok P) (n : Nat) (hn : n ≤ L.length) : Ow H T (pre v n) (L.take n) := Mem.Ow.pre (w := ⟨H, fun _ _ => 0, 0, default, #[]⟩) hv hT n hn
theorem Sl.pre (hv : Sl H T v L) (hT : T.Ok P) (n : Nat) (hn : n ≤ L.length) : Sl H T (pre v n) (L.take n) := Mem.Sl.pre (w := ⟨H, fun _ _ => 0, 0, default, #[]⟩) hv hT n hn
theorem Sl.suf (hv : Sl H T v L) (hT : T.Ok P) (n : Nat) (hn : n ≤ L.length) : Sl H T (suf T.size v n) (L.drop n) := Mem.Sl.suf (w := ⟨H, fun _ _ => 0, 0, default, #[]⟩) hv hT n hn
/-- A block that holds just these elements. -/
theorem Ow.lit (hT : T.Ok P) (L : List α) {g n : Nat} {arr : Array Value} (hg : H[g]? = some (.cells arr T.id (0, 0))) (he : arr.toList = T.flat L) (hn : n = L.length) (hl : L.length ≤ 9223372036854775807) : Ow H T (.slice (some ⟨g, 0, none⟩) n n) L :=
  Mem.Ow.lit (w' := ⟨H, fun _ _ => 0, 0, default, #[]⟩) hT L g n arr hg he hn hl
end

/-! ### Maps -/
section
variable {κ β : Type} [DecidableEq κ] {P : Program} {K : KTy κ} {V : β → Value} {H H' : Heap} {b : Nat} {m : List (κ × β)}
/-- Block b is a map with these entries. -/
def Mp (H : Heap) (K : KTy κ) (V : β → Value) (b : Nat) (m : List (κ × β)) : Prop :=
  ∃ es clock, H[b]? = some (.map es clock) ∧ es.toList.map (fun e => (e.key, e.val)) = m.map (fun p => (K.val p.1, V p.2)) ∧ (m.map Prod.fst).Nodup ∧ Stamps es.toList clock
theorem Mp.of_mem {w : World} (h : Mem.Mp w K V b m) : Mp w.heap K V b m := h
theorem Mp.mem {w : World} (h : Mp w.heap K V b m) : Mem.Mp w K V b m := h
theorem Mp.lt (h : Mp H K V b m) : b < H.size := by
  obtain ⟨es, clock, hb, _⟩ := h
  exact lt_of_some hb
theorem Mp.kept (h : Mp H K V b m) (hb : H'[b]? = H[b]?) : Mp H' K V b m := by
  obtain ⟨es, clock, h1, r⟩ := h
  exact ⟨es, clock, hb.trans h1, r⟩
theorem Mp.chg {S : Nat → Prop} (h : Mp H K V b m) (c : Chg S H H') (hS : ¬ S b) : Mp H' K V b m := h.kept (c.block b h.lt hS)
theorem Mp.nodup (h : Mp H K V b m) : (m.map Prod.fst).Nodup := by obtain ⟨_, _, _, _, h, _⟩ := h; exact h
theorem Mp.made {g : Nat} (h : H[g]? = some (.map #[] 0)) (K : KTy κ) (V : β → Value) : Mp H K V g [] := ⟨#[], 0, h, rfl, by simp, by simp [Stamps]⟩
end
end Go.Hp
