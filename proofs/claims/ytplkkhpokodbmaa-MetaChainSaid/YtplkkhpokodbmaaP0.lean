/-
  What the rows of layer 15 share.
-/
import Derived.Test.YtplkkhpokodbmaaW7
import Derived.Test.YtplkkhpokodbmaaJR
import Derived.Test.YtplkkhpokodbmaaRows
set_option linter.unusedSimpArgs false
set_option linter.unusedVariables false
set_option maxRecDepth 100000
namespace Go.Proofs.Ytplkkhpokodbmaa
open Go.S Go.J Go.RowKit
theorem Try.own : ownKnob Try.prog.godebug = none := by kernel_rfl
theorem Try.laidOut : laidOutB Try.prog = true := by kernel_rfl
instance : Inhabited Spc := ⟨⟨zVl, 0⟩⟩
instance : Inhabited Opc := ⟨⟨0, ⟨zVl, 0⟩, ⟨zVl, 0⟩, ⟨zVl, 0⟩⟩⟩
theorem decSpT (cs : List Value) (h : fitsL [0, 0, 0, 1, 0, 0] cs = true) : ∃ x, SpT.enc x = cs := by
  have hl := fitsL_len h
  match cs, hl, h with
  | [c0, c1, c2, c3, c4, c5], _, h =>
    simp only [fitsL, Bool.and_eq_true] at h
    obtain ⟨c0, rfl⟩ := fit_int h.1
    obtain ⟨c1, rfl⟩ := fit_int h.2.1
    obtain ⟨c2, rfl⟩ := fit_int h.2.2.1
    obtain ⟨c3, rfl⟩ := fit_str h.2.2.2.1
    obtain ⟨c4, rfl⟩ := fit_int h.2.2.2.2.1
    obtain ⟨c5, rfl⟩ := fit_int h.2.2.2.2.2.1
    exact ⟨⟨⟨c0, c1, c2, c3, c4⟩, c5⟩, rfl⟩
end Go.Proofs.Ytplkkhpokodbmaa
