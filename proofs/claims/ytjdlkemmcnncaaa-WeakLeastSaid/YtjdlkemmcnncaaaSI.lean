/-
  Slices of integers: their type, sorting and searching by the library's contracts, as contracts over memory in parts. Each law says its conditions.
-/
import Derived.Test.YtjdlkemmcnncaaaSIa
import Derived.Shelf.Sort.Plain
set_option linter.unusedSimpArgs false
set_option linter.unusedVariables false
namespace Go.S
open Go.Hp Go.J Go.RowKit
open Go.Mem (Ty KTy blk aggDesc)
section
variable {P : Program}
def srt (L : List Int) : List Int := L.mergeSort fun x y => decide (x ≤ y)
theorem srt_len (L : List Int) : (srt L).length = L.length := List.length_mergeSort _
theorem get_putCells (L : List Int) (arr : Array Value) (h : L.length ≤ arr.size) : (Sort.putCells (Value.int .i64) 0 L.toArray arr).toList.take L.length = L.map fun n => Value.int .i64 n := by
  apply List.ext_getElem?
  intro k
  by_cases hk : k < L.length
  · rw [List.getElem?_take, if_pos hk, Array.getElem?_toList]
    unfold Sort.putCells
    rw [Array.getElem?_mapIdx, Array.getElem?_eq_getElem (by omega)]
    simp [hk]
  · rw [List.getElem?_eq_none (by simp; omega), List.getElem?_eq_none (by simp; omega)]
theorem sf_sort {f : FuncId} {e : TypeId} {Z : Zone} {F : List Asr} {v : Value} {L : List Int} (hl : L.length < 4611686018427387904)
    (hs : ∀ (b off cap : Nat) (zs : List Int) (w : World), Sort.Holds (Value.int .i64) w b off zs.toArray → b < w.heap.size → zs.length < 4611686018427387904 → Calls P f #[.slice (some ⟨b, off, none⟩) zs.length cap] w fun e w' => e = .returned (.tuple #[]) ∧ ∃ n os, w' = Sort.grow (Sort.putRow (Value.int .i64) (Sort.ahead w n) b off (zs.mergeSort fun x y => decide (x ≤ y)).toArray) os)
    (h0 : ∀ (p : Option Addr) (cap : Nat) (w : World), Calls P f #[.slice p 0 cap] w fun e w' => e = .returned (.tuple #[]) ∧ w' = w) :
    SF P f #[v] Z (own (iT e) v L :: F) fun r Bs => r = .tuple #[] ∧ Bs = own (iT e) v (srt L) :: F :=
  sf_of (A := own (iT e) v L) (A' := own (iT e) v (srt L)) fun H S ⟨ow, hS⟩ => by
    rcases ow with ⟨rfl, rfl⟩ | ⟨g, cap, arr, rfl, h1, h2, h3, h4, h5⟩
    · intro w hw
      refine (h0 none 0 w).mono fun e' w' ⟨he, hw'⟩ => ⟨_, he, ?_, rfl, S, ⟨?_, hS⟩, ?_, fun k hk => .inl hk⟩
      · subst hw'; exact At.self _
      · exact .inl ⟨rfl, by simp [srt]⟩
      · subst hw'; rw [hw]; exact Chg.refl _ _
    · intro w hw
      have h4' : L.length ≤ arr.size := by have : (iT e).size = 1 := rfl; rw [this] at h4; omega
      have h5' : arr.toList.take L.length = L.map fun n => Value.int .i64 n := by have := h5; rw [flat_int, show (iT e).size = 1 from rfl, Nat.mul_one] at this; exact this
      have hH : Sort.Holds (Value.int .i64) w g 0 L.toArray := fun j hj => by
        have hj' : j < L.length := by simpa using hj
        have hg : w.heap[g]? = some (.cells arr e (0, 0)) := by rw [hw]; exact h1
        constructor
        · have := cell_of_row w g (0 + j) arr e (0, 0) hg
          rw [this]
          have h6 := congrArg (·[j]?) h5'
          simp only [List.getElem?_take, if_pos hj', List.getElem?_map] at h6
          rw [Array.getElem?_toList] at h6
          rw [Nat.zero_add, h6]
          simp [hj']
        · unfold World.frozen?
          simp [hg]
      refine (hs g 0 cap L w hH (by rw [hw]; exact lt_of_some h1) hl).mono fun e' w' ⟨he, n, os, hw'⟩ => ⟨_, he, ?_, rfl, S, ⟨?_, hS⟩, ?_, fun k hk => .inl hk⟩
      · subst hw'; exact ⟨rfl, rfl, rfl, rfl⟩
      · have hg : w'.heap[g]? = some (.cells (Sort.putCells (Value.int .i64) 0 (srt L).toArray arr) e (0, 0)) := by
          subst hw'
          have hg : w.heap[g]? = some (.cells arr e (0, 0)) := by rw [hw]; exact h1
          show (((w.heap.modify g (Sort.onCells (Sort.putCells (Value.int .i64) 0 (srt L).toArray))) ++ os)[g]?) = _
          rw [Array.getElem?_append_left (by rw [Array.size_modify]; exact lt_of_some hg), Array.getElem?_modify, if_pos rfl, hg]
          rfl
        refine .inr ⟨g, cap, _, by rw [srt_len], hg, by rw [srt_len]; exact h2, h3, ?_, ?_⟩
        · have : (Sort.putCells (Value.int .i64) 0 (srt L).toArray arr).size = arr.size := by simp [Sort.putCells]
          rw [this]; exact h4
        · rw [show (iT e).size = 1 from rfl, Nat.mul_one, flat_int]; exact get_putCells (srt L) arr (by rw [srt_len]; exact h4')
      · subst hw'
        rw [← hw]
        refine ⟨?_, fun k hk hn => ?_⟩
        · show w.heap.size ≤ ((w.heap.modify g _) ++ os).size
          simp
        · show (((w.heap.modify g (Sort.onCells (Sort.putCells (Value.int .i64) 0 (srt L).toArray))) ++ os)[k]?) = _
          rw [Array.getElem?_append_left (by rw [Array.size_modify]; exact hk), Array.getElem?_modify, if_neg]
          intro e1
          exact hn ((hS k).2 (by rw [← e1]; rfl))
theorem sf_find {f : FuncId} {e : TypeId} {Z : Zone} {v : Value} {L : List Int} (x : Int) (hk : Kn Z (iT e) v L) (hl : L.length < 4611686018427387904) (hp : L.Pairwise (· ≤ ·))
    (hs : ∀ (b off n c : Nat) (zs : List Int) (x : Int) (w : World), n ≤ zs.length → n < 4611686018427387904 → (∀ j, j < zs.length → w.cell? ⟨b, off + j, none⟩ = some (.int .i64 (zs.getD j 0))) → (zs.take n).Pairwise (· ≤ ·) → Calls P f #[.slice (some ⟨b, off, none⟩) n c, .int .i64 x] w fun e w' => e = .returned (.tuple #[.int .i64 ((zs.take n).countP (· < x) : Nat), .bool ((zs.take n).contains x)]) ∧ ∃ q, w' = w.drewN q)
    (h0 : ∀ (a : Option Addr) (c : Nat) (x : Int) (w : World), Calls P f #[.slice a 0 c, .int .i64 x] w fun e w' => e = .returned (.tuple #[.int .i64 0, .bool false]) ∧ w' = w) :
    SF P f #[v, .int .i64 x] Z [] fun r Bs => r = .tuple #[.int .i64 (L.countP (· < x) : Nat), .bool (decide (x ∈ L))] ∧ Bs = [] :=
  sf_val fun H hH w hw => by
    have sl := hk.get hH
    rcases sl with ⟨⟨p, rfl⟩, rfl⟩ | ⟨g, off, cap, arr, e', fr, rfl, h1, h2, h3, h4, h5⟩
    · refine (h0 p 0 x w).mono fun e' w' ⟨he, hw'⟩ => ⟨_, he, ?_, rfl, ?_⟩
      · subst hw'; exact At.self _
      · subst hw'; rw [hw]; exact Chg.refl _ _
    · have h5' : (arr.toList.drop off).take L.length = L.map fun n => Value.int .i64 n := by have := h5; rw [flat_int, show (iT e).size = 1 from rfl, Nat.mul_one] at this; exact this
      have hg : w.heap[g]? = some (.cells arr e' fr) := by rw [hw]; exact h1
      refine (hs g off L.length cap L x w (Nat.le_refl _) hl (fun j hj => ?_) (by rw [List.take_length]; exact hp)).mono fun e' w' ⟨he, q, hw'⟩ => ⟨_, he, ?_, ?_, ?_⟩
      · rw [cell_of_row w g (off + j) arr e' fr hg]
        have h6 := congrArg (·[j]?) h5'
        simp only [List.getElem?_take, if_pos hj, List.getElem?_map, List.getElem?_drop] at h6
        rw [Array.getElem?_toList] at h6
        rw [h6]
        simp [hj, List.getD_eq_getElem?_getD]
      · subst hw'; exact ⟨rfl, rfl, rfl, rfl⟩
      · rw [List.take_length]; congr 4; simp
      · subst hw'; rw [← hw]; exact Chg.refl _ _
end
end Go.S
