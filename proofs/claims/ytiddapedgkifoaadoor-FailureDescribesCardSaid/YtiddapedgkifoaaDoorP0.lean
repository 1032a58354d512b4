/-
  The arguments of the statements of layer 19, opened; the table of powers of ten, out of the row's list.
-/
import Derived.Test.YtiddapedgkifoaaDoorW14
import Derived.Test.YtiddapedgkifoaaDoorJS
import Derived.Lib.LaidTab
import Derived.Stop.LaidErr
set_option linter.unusedSimpArgs false
set_option linter.unusedVariables false
set_option maxRecDepth 100000
namespace Go.Proofs.YtiddapedgkifoaaDoor
open Go.ChangeShapes Go.WideShapes Go.ChangeAt Go.RowKit Go.Hp Go.J Go.S
theorem openVl {H : Type} {enc : TypeId × Value → H} {W : World} {cs : List Value} (h : TrS enc Tryd.prog W 25 cs) : ∃ x, VlT.enc x = cs ∧ okV x := by
  have hl := trs_len Tryd.underlying25 h 5
  obtain ⟨x0, e0, b0⟩ := trs_int Tryd.underlying3 (trs_field Tryd.underlying25 h 0 3 0 1)
  obtain ⟨x1, e1, b1⟩ := trs_int Tryd.underlying3 (trs_field Tryd.underlying23 (trs_field Tryd.underlying25 h 1 23 1 2) 0 3 0 1)
  obtain ⟨x2, e2, b2⟩ := trs_int Tryd.underlying3 (trs_field Tryd.underlying23 (trs_field Tryd.underlying25 h 1 23 1 2) 1 3 1 1)
  obtain ⟨x3, e3, b3⟩ := trs_str Tryd.underlying9 (trs_field Tryd.underlying25 h 2 9 3 1)
  obtain ⟨x4, e4, b4⟩ := trs_int Tryd.underlying3 (trs_field Tryd.underlying25 h 3 3 4 1)
  match cs, hl with
  | [c0, c1, c2, c3, c4], _ =>
    obtain rfl : c0 = _ := (List.cons.inj (show [c0] = _ from e0)).1
    obtain rfl : c1 = _ := (List.cons.inj (show [c1] = _ from e1)).1
    obtain rfl : c2 = _ := (List.cons.inj (show [c2] = _ from e2)).1
    obtain rfl : c3 = _ := (List.cons.inj (show [c3] = _ from e3)).1
    obtain rfl : c4 = _ := (List.cons.inj (show [c4] = _ from e4)).1
    exact ⟨⟨x0, x1, x2, x3, x4⟩, rfl, ⟨b4.1, b4.2, by show (x3.size : Int) ≤ _; omega⟩⟩
theorem openPl {H : Type} {enc : TypeId × Value → H} {W : World} {cs : List Value} (h : TrS enc Tryd.prog W 44 cs) : ∃ x, PlT.enc x = cs ∧ okP x := by
  have hl := trs_len Tryd.underlying44 h 3
  obtain ⟨x0, e0, b0⟩ := trs_str Tryd.underlying9 (trs_field Tryd.underlying44 h 0 9 0 1)
  obtain ⟨x1, e1, b1⟩ := trs_int Tryd.underlying3 (trs_field Tryd.underlying44 h 1 3 1 1)
  obtain ⟨x2, e2⟩ := trs_bool Tryd.underlying4 (trs_field Tryd.underlying44 h 2 4 2 1)
  match cs, hl with
  | [c0, c1, c2], _ =>
    obtain rfl : c0 = _ := (List.cons.inj (show [c0] = _ from e0)).1
    obtain rfl : c1 = _ := (List.cons.inj (show [c1] = _ from e1)).1
    obtain rfl : c2 = _ := (List.cons.inj (show [c2] = _ from e2)).1
    exact ⟨⟨x0, x1, x2⟩, rfl, ⟨b1.1, b1.2, by show (x0.size : Int) ≤ _; omega⟩⟩
theorem openTr {H : Type} {enc : TypeId × Value → H} {W : World} {cs : List Value} (h : TrS enc Tryd.prog W 26 cs) : ∃ v L, cs = [v] ∧ Sl W.heap PlT v L ∧ (∀ y ∈ L, okP y) ∧ L.length * 32 ≤ 140737488351232 :=
  haveI : Inhabited Pl := ⟨PlT.zero⟩
  trs_slice PlT_ok Tryd.underlying26 (by kernel_rfl) (fun cs h => openPl h) h
theorem openFl {H : Type} {enc : TypeId × Value → H} {W : World} {cs : List Value} (h : TrS enc Tryd.prog W 31 cs) : ∃ v s L, cs = VlT.enc v ++ [s] ∧ okV v ∧ Sl W.heap PlT s L ∧ ∀ y ∈ L, okP y := by
  have hl := trs_len Tryd.underlying31 h 6
  obtain ⟨v, e1, hv⟩ := openVl (trs_field Tryd.underlying31 h 0 25 0 5)
  obtain ⟨s, L, e2, hs, hL, _⟩ := openTr (trs_field Tryd.underlying31 h 1 26 5 1)
  refine ⟨v, s, L, ?_, hv, hs, hL⟩
  rw [e1, ← e2]
  match cs, hl with
  | [_, _, _, _, _, _], _ => rfl
theorem tab_of {W : World} (h : laidMetH Tryd.prog [("math/bits.deBruijn32tab", Rows.laid_math_bits_deBruijn32tab), ("math/bits.deBruijn64tab", Rows.laid_math_bits_deBruijn64tab), ("internal/strconv.uint64pow10", Rows.laid_internal_strconv_uint64pow10)] W) : KnTab (zoneOf W.heap) := by
  have h1 : Lib.TabIs Tryd.prog W "internal/strconv.uint64pow10" .u64 Lib.pow10Tab :=
    Lib.tabIs_of_head (rest := []) (g := 0) (t := 72) (e := 59) (n := 20) (by kernel_rfl) (by kernel_rfl) Tryd.underlying72 Tryd.underlying59 (by kernel_rfl) (by kernel_rfl) (laidMet.tail (laidMet.tail h))
  intro H hH w hw
  have hg : Tryd.prog.globalNamed "internal/strconv.uint64pow10" = some 0 := by kernel_rfl
  unfold Lib.TabIs World.var? at h1 ⊢
  rw [hg] at h1 ⊢
  simp only [Option.bind_some] at h1 ⊢
  have hlt : 0 < W.heap.size := by
    rcases Nat.lt_or_ge 0 W.heap.size with h | h
    · exact h
    · rw [Array.getElem?_eq_none h] at h1; cases h1
  rw [hw, (hH 0 hlt).1]
  exact h1
end Go.Proofs.YtiddapedgkifoaaDoor
