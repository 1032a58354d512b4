/-
  What the rows of layer 43 share: readings of arguments.
-/
import Derived.Test.YtikbimlfbcffhaaW5
import Derived.Test.YtikbimlfbcffhaaJR
set_option linter.unusedSimpArgs false
set_option linter.unusedVariables false
set_option maxRecDepth 100000
namespace Go.Proofs.Ytikbimlfbcffhaa
open Go.ChangeShapes Go.WideShapes Go.ChangeAt Go.RowKit Go.J
theorem Try.own : ownKnob Try.prog.godebug = none := by kernel_rfl
theorem Try.laidOut : laidOutB Try.prog = true := by kernel_rfl
instance : Inhabited Vl := ⟨zVl⟩
instance : Inhabited Opn := ⟨⟨0, 0, ByteArray.empty, 0, 0, 0, 0, false⟩⟩
theorem fit_int {v : Value} (h : fitsK 0 v = true) : ∃ n, v = .int .i64 n := by
  cases v <;> simp [fitsK] at h
  rename_i k n
  cases k <;> simp [fitsK] at h
  exact ⟨n, rfl⟩
theorem fit_str {v : Value} (h : fitsK 1 v = true) : ∃ n, v = .string n := by
  cases v <;> simp [fitsK] at h
  exact ⟨_, rfl⟩
theorem fit_bool {v : Value} (h : fitsK 2 v = true) : ∃ n, v = .bool n := by
  cases v <;> simp [fitsK] at h
  exact ⟨_, rfl⟩
theorem decVl (cs : List Value) (h : fitsL [0, 0, 0, 1, 0] cs = true) : ∃ x, VlT.enc x = cs := by
  match cs, h with
  | [a, b, c, d, e], h =>
    simp only [fitsL, Bool.and_eq_true] at h
    obtain ⟨a, rfl⟩ := fit_int h.1; obtain ⟨b, rfl⟩ := fit_int h.2.1; obtain ⟨c, rfl⟩ := fit_int h.2.2.1; obtain ⟨d, rfl⟩ := fit_str h.2.2.2.1; obtain ⟨e, rfl⟩ := fit_int h.2.2.2.2.1
    exact ⟨⟨a, b, c, d, e⟩, rfl⟩
  | [], h => simp [fitsL] at h
  | [_], h => simp [fitsL] at h
  | [_, _], h => simp [fitsL] at h
  | [_, _, _], h => simp [fitsL] at h
  | [_, _, _, _], h => simp [fitsL] at h
  | _ :: _ :: _ :: _ :: _ :: _ :: _, h => simp [fitsL] at h
theorem decOp (cs : List Value) (h : fitsL [0, 0, 1, 0, 0, 0, 0, 2] cs = true) : ∃ x, OpT.enc x = cs := by
  have hl := fitsL_len h
  match cs, hl, h with
  | [a, b, c, d, e, f, g, i], _, h =>
    simp only [fitsL, Bool.and_eq_true] at h
    obtain ⟨a, rfl⟩ := fit_int h.1; obtain ⟨b, rfl⟩ := fit_int h.2.1; obtain ⟨c, rfl⟩ := fit_str h.2.2.1; obtain ⟨d, rfl⟩ := fit_int h.2.2.2.1; obtain ⟨e, rfl⟩ := fit_int h.2.2.2.2.1; obtain ⟨f, rfl⟩ := fit_int h.2.2.2.2.2.1; obtain ⟨g, rfl⟩ := fit_int h.2.2.2.2.2.2.1; obtain ⟨i, rfl⟩ := fit_bool h.2.2.2.2.2.2.2.1
    exact ⟨⟨a, b, c, d, e, f, g, i⟩, rfl⟩
end Go.Proofs.Ytikbimlfbcffhaa
