/-
  strconv.Itoa at this program: the shelf's contract, as a contract over one heap. Condition: the table uint64pow10 lies as the row lists it.
-/
import Derived.Shelf.Lay
import Derived.Shelf.Strconv.Itoa3
import Derived.Test.YtdakfjdbdopmbaaDoorProg
import Derived.Test.YtdakfjdbdopmbaaDoorST
set_option linter.unusedSimpArgs false
set_option linter.unusedVariables false
namespace Go.Proofs
open Go.Shelf
shelf_lay LaysM.n171 Nm 171 at Tryd as Tryd.laysM171
open Go.RowKit Go.Sort Go.Lib in
theorem Tryd.strconv_Itoa (n : Int) (h0 : -9223372036854775808 ≤ n) (h1 : n ≤ 9223372036854775807) (w : World) (htab : Lib.TabIs Tryd.prog w "internal/strconv.uint64pow10" .u64 Lib.pow10Tab) :
    Calls Tryd.prog 31 #[.int .i64 n] w fun e w' => e = .returned (.string ⟨(Lib.itoa n).toArray⟩) ∧ ∃ k os, w' = grow (w.drewN k) os := Any.strconv_Itoa Tryd.laysM171 n h0 h1 w htab
namespace YtdakfjdbdopmbaaDoor
open Go.Hp Go.J Go.S
/-- The table lies as it should, in this memory. -/
def Tab (H : Heap) : Prop := ∀ w : World, w.heap = H → Lib.TabIs Tryd.prog w "internal/strconv.uint64pow10" .u64 Lib.pow10Tab
def KnTab (Z : Zone) : Prop := ∀ H : Heap, (∀ k, Z.dom k → H[k]? = Z.heap[k]? ∧ k < H.size) → Tab H
def itoaB (n : Int) : ByteArray := ⟨(Lib.itoa n).toArray⟩
theorem KnTab.get {Z : Zone} {As : List Asr} {H : Heap} (k : KnTab Z) (h : Holds Z As H) : Tab H := k H h.zone
theorem KnTab.at {Z : Zone} {As : List Asr} {H : Heap} (k : KnTab Z) (h : Holds Z As H) : KnTab (zoneOf H) :=
  fun H' q => k H' fun j hj => ⟨(q j (h.zone j hj).2).1.trans (h.zone j hj).1, (q j (h.zone j hj).2).2⟩
theorem chg_grow (w : World) (k : Nat) (os : Array Obj) : Chg (fun _ => False) w.heap (Sort.grow (w.drewN k) os).heap := by
  refine ⟨by show w.heap.size ≤ (w.heap ++ os).size; simp, fun j hj _ => ?_⟩
  show (w.heap ++ os)[j]? = w.heap[j]?
  rw [Array.getElem?_append_left hj]
theorem itoa_s {Z : Zone} (ht : KnTab Z) (n : Int) (h0 : -9223372036854775808 ≤ n) (h1 : n ≤ 9223372036854775807) : SF Tryd.prog 31 #[.int .i64 n] Z [] fun v Bs => v = .string (itoaB n) ∧ Bs = [] :=
  sf_val fun H hH w hw => (Tryd.strconv_Itoa n h0 h1 w (ht.get hH w hw)).mono fun e w' ⟨he, k, os, hw'⟩ => ⟨_, he, by subst hw'; exact ⟨rfl, rfl, rfl, rfl⟩, rfl, by subst hw'; rw [← hw]; exact chg_grow w k os⟩
end YtdakfjdbdopmbaaDoor
end Go.Proofs
