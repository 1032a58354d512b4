/-
  What the rows of layer 17 share.
-/
import Derived.Test.YtnhbejiakfaohaaDefs
set_option linter.unusedSimpArgs false
set_option linter.unusedVariables false
namespace Go.Proofs.Ytnhbejiakfaohaa
open Go.RowKit
theorem Try.own : ownKnob Try.prog.godebug = none := by kernel_rfl
theorem Try.laidOut : laidOutB Try.prog = true := by kernel_rfl
instance : Inhabited Vl := ⟨zVl⟩
theorem rng {k : IntKind} {n : Int} (lo hi : Int) (h : (Lit.int k n).wf = true) (hlo : k.min = lo) (hhi : k.max = hi) : lo ≤ n ∧ n ≤ hi := by
  simp only [Lit.wf, Bool.and_eq_true, decide_eq_true_eq] at h; rw [← hlo, ← hhi]; exact h
instance : Inhabited Cl := ⟨⟨0, 0, 0, 0, 0, 0, ByteArray.empty, 0⟩⟩
end Go.Proofs.Ytnhbejiakfaohaa
