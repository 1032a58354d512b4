/-
  States that are opened under several names at once. No condition.
-/
import Derived.Test.YtjdlkemmcnncaaaSV
set_option linter.unusedSimpArgs false
set_option linter.unusedVariables false
namespace Go.S
open Go.Hp Go.J
section
variable {P : Program} {w0 : World} {ops : Array Oper} {Q : Exit → Act → World → Prop} {n : Nat} {E : Env} {Z : Zone} {As : List Asr} {α β γ δ : Type}
theorem k_mem2 {c : Code} {p : α → β → Prop} {Bs : α → β → List Asr} (hA : ∀ H, Holds Z As H → ∃ x y, p x y ∧ Holds Z (Bs x y) H) (h : ∀ x y, p x y → SK P w0 c Q n E Z (Bs x y)) : SK P w0 c Q n E Z As := fun H hH => by
  obtain ⟨x, y, hp, hB⟩ := hA H hH; exact h x y hp H hB
theorem s_mem2 {l : List Oper} {p : α → β → Prop} {Bs : α → β → List Asr} (hA : ∀ H, Holds Z As H → ∃ x y, p x y ∧ Holds Z (Bs x y) H) (h : ∀ x y, p x y → SL P w0 ops Q n l E Z (Bs x y)) : SL P w0 ops Q n l E Z As := fun H hH => by
  obtain ⟨x, y, hp, hB⟩ := hA H hH; exact h x y hp H hB
theorem xs_mem2 {c : Exit} {p : α → β → Prop} {Bs : α → β → List Asr} (hA : ∀ H, Holds Z As H → ∃ x y, p x y ∧ Holds Z (Bs x y) H) (h : ∀ x y, p x y → SX w0 c Q n E Z (Bs x y)) : SX w0 c Q n E Z As := fun H hH => by
  obtain ⟨x, y, hp, hB⟩ := hA H hH; exact h x y hp H hB
theorem k_mem3 {c : Code} {p : α → β → γ → Prop} {Bs : α → β → γ → List Asr} (hA : ∀ H, Holds Z As H → ∃ x y z, p x y z ∧ Holds Z (Bs x y z) H) (h : ∀ x y z, p x y z → SK P w0 c Q n E Z (Bs x y z)) : SK P w0 c Q n E Z As := fun H hH => by
  obtain ⟨x, y, z, hp, hB⟩ := hA H hH; exact h x y z hp H hB
theorem s_mem3 {l : List Oper} {p : α → β → γ → Prop} {Bs : α → β → γ → List Asr} (hA : ∀ H, Holds Z As H → ∃ x y z, p x y z ∧ Holds Z (Bs x y z) H) (h : ∀ x y z, p x y z → SL P w0 ops Q n l E Z (Bs x y z)) : SL P w0 ops Q n l E Z As := fun H hH => by
  obtain ⟨x, y, z, hp, hB⟩ := hA H hH; exact h x y z hp H hB
theorem xs_mem3 {c : Exit} {p : α → β → γ → Prop} {Bs : α → β → γ → List Asr} (hA : ∀ H, Holds Z As H → ∃ x y z, p x y z ∧ Holds Z (Bs x y z) H) (h : ∀ x y z, p x y z → SX w0 c Q n E Z (Bs x y z)) : SX w0 c Q n E Z As := fun H hH => by
  obtain ⟨x, y, z, hp, hB⟩ := hA H hH; exact h x y z hp H hB
theorem k_mem4 {c : Code} {p : α → β → γ → δ → Prop} {Bs : α → β → γ → δ → List Asr} (hA : ∀ H, Holds Z As H → ∃ x y z u, p x y z u ∧ Holds Z (Bs x y z u) H) (h : ∀ x y z u, p x y z u → SK P w0 c Q n E Z (Bs x y z u)) : SK P w0 c Q n E Z As := fun H hH => by
  obtain ⟨x, y, z, u, hp, hB⟩ := hA H hH; exact h x y z u hp H hB
theorem s_mem4 {l : List Oper} {p : α → β → γ → δ → Prop} {Bs : α → β → γ → δ → List Asr} (hA : ∀ H, Holds Z As H → ∃ x y z u, p x y z u ∧ Holds Z (Bs x y z u) H) (h : ∀ x y z u, p x y z u → SL P w0 ops Q n l E Z (Bs x y z u)) : SL P w0 ops Q n l E Z As := fun H hH => by
  obtain ⟨x, y, z, u, hp, hB⟩ := hA H hH; exact h x y z u hp H hB
theorem xs_mem4 {c : Exit} {p : α → β → γ → δ → Prop} {Bs : α → β → γ → δ → List Asr} (hA : ∀ H, Holds Z As H → ∃ x y z u, p x y z u ∧ Holds Z (Bs x y z u) H) (h : ∀ x y z u, p x y z u → SX w0 c Q n E Z (Bs x y z u)) : SX w0 c Q n E Z As := fun H hH => by
  obtain ⟨x, y, z, u, hp, hB⟩ := hA H hH; exact h x y z u hp H hB
end
end Go.S
