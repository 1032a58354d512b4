/-
  The arguments of the statements, opened; the table of powers of ten, out of the row's list.
-/
import Derived.Test.YtdakfjdbdopmbaaDoorW11
import Derived.Test.YtdakfjdbdopmbaaDoorJS
import Derived.Lib.LaidTab
import Derived.Stop.LaidErr
set_option linter.unusedSimpArgs false
set_option linter.unusedVariables false
set_option maxRecDepth 100000
namespace Go.Proofs.YtdakfjdbdopmbaaDoor
open Go.ChangeShapes Go.WideShapes Go.ChangeAt Go.RowKit Go.Hp Go.J Go.S
theorem openVl {H : Type} {enc : TypeId × Value → H} {W : World} {cs : List Value} (h : TrS enc Tryd.prog W 39 cs) : ∃ x, VlT.enc x = cs ∧ okV x := by
  have hl := trs_len Tryd.underlying39 h 5
  obtain ⟨x0, e0, b0⟩ := trs_int Tryd.underlying3 (trs_field Tryd.underlying39 h 0 3 0 1)
  obtain ⟨x1, e1, b1⟩ := trs_int Tryd.underlying3 (trs_field Tryd.underlying37 (trs_field Tryd.underlying39 h 1 37 1 2) 0 3 0 1)
  obtain ⟨x2, e2, b2⟩ := trs_int Tryd.underlying3 (trs_field Tryd.underlying37 (trs_field Tryd.underlying39 h 1 37 1 2) 1 3 1 1)
  obtain ⟨x3, e3, b3⟩ := trs_str Tryd.underlying9 (trs_field Tryd.underlying39 h 2 9 3 1)
  obtain ⟨x4, e4, b4⟩ := trs_int Tryd.underlying3 (trs_field Tryd.underlying39 h 3 3 4 1)
  match cs, hl with
  | [c0, c1, c2, c3, c4], _ =>
    obtain rfl : c0 = _ := (List.cons.inj (show [c0] = _ from e0)).1
    obtain rfl : c1 = _ := (List.cons.inj (show [c1] = _ from e1)).1
    obtain rfl : c2 = _ := (List.cons.inj (show [c2] = _ from e2)).1
    obtain rfl : c3 = _ := (List.cons.inj (show [c3] = _ from e3)).1
    obtain rfl : c4 = _ := (List.cons.inj (show [c4] = _ from e4)).1
    exact ⟨⟨x0, x1, x2, x3, x4⟩, rfl, ⟨b4.1, b4.2, by show (x3.size : Int) ≤ _; omega⟩⟩
theorem tab_of {W : World} (h : laidMetH Tryd.prog [("math/bits.deBruijn32tab", Rows.laid_math_bits_deBruijn32tab), ("math/bits.deBruijn64tab", Rows.laid_math_bits_deBruijn64tab), ("internal/strconv.uint64pow10", Rows.laid_internal_strconv_uint64pow10)] W) : KnTab (zoneOf W.heap) := by
  have h1 : Lib.TabIs Tryd.prog W "internal/strconv.uint64pow10" .u64 Lib.pow10Tab :=
    Lib.tabIs_of_head (rest := []) (g := 0) (t := 101) (e := 93) (n := 20) (by kernel_rfl) (by kernel_rfl) Tryd.underlying101 Tryd.underlying93 (by kernel_rfl) (by kernel_rfl) (laidMet.tail (laidMet.tail h))
  intro H hH w hw
  have hg : Tryd.prog.globalNamed "internal/strconv.uint64pow10" = some 0 := by kernel_rfl
  unfold Lib.TabIs World.var? at h1 ⊢
  rw [hg] at h1 ⊢
  simp only [Option.bind_some] at h1 ⊢
  have hlt : 0 < W.heap.size := by
    rcases Nat.lt_or_ge 0 W.heap.size with h | h
    · exact h
    · rw [Array.getElem?_eq_none h] at h1; cases h1
  rw [hw, (hH 0 hlt).1]
  exact h1
end Go.Proofs.YtdakfjdbdopmbaaDoor
