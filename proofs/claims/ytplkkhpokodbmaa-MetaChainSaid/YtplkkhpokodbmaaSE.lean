/-
  Joining states within a drawn region; short spellings for joins and rounds. No condition but those that each rule says.
-/
import Derived.Test.YtplkkhpokodbmaaSD
set_option linter.unusedSimpArgs false
set_option linter.unusedVariables false
namespace Go.S
open Go.Hp Go.J
section
variable {P : Program} {w0 : World} {Q : Exit → Act → World → Prop} {n : Nat} {E : Env} {Z : Zone} {As : List Asr} {l : List Oper} {Ks : List Asr} {fuel : Nat} {listed : Array Bool}
theorem h_join {ι : Type} (fuel2 : Nat) (listed2 : Array Bool) (Ei : ι → Env) (Ai : ι → List Asr) (hj : ∀ i, SH P w0 l Q n Z Ks fuel2 listed2 (Ei i) (Ai i)) (h : (∀ i, SH P w0 l Q n Z Ks fuel2 listed2 (Ei i) (Ai i)) → SH P w0 l Q n Z Ks fuel listed E As) : SH P w0 l Q n Z Ks fuel listed E As := h hj
theorem h_use {ι : Type} {fuel2 : Nat} {listed2 : Array Bool} {Ei : ι → Env} {Ai : ι → List Asr} (hj : ∀ i, SH P w0 l Q n Z Ks fuel2 listed2 (Ei i) (Ai i)) (i : ι) (hA : ∀ H, Holds Z As H → Holds Z (Ai i) H) (hE : subB E (Ei i) := by exact sub_of rfl (by repeat first | exact trivial | refine ⟨⟨rfl, rfl⟩, ?_⟩)) (hf : fuel = fuel2 := by kernel_rfl) (hl : listed = listed2 := by kernel_rfl) : SH P w0 l Q n Z Ks fuel listed E As := fun H hH => by
  subst hf; subst hl
  exact fun a w hfit ha => hj i H (hA H hH) a w (hfit.of_sub hE) ha
theorem s_nt {ops : Array Oper} {y : Code} (h : SK P w0 y Q n E Z As) : SL P w0 ops (Exit.then (y.wp P Q) Q) n [] E Z As := s_nil (xs_then h)
theorem k_sr {id : Nat} {y : Code} (h : SL P w0 l.toArray (Exit.then (y.wp P Q) Q) n l E Z As) : SK P w0 (.seq (.region id l.toArray false) y) Q n E Z As := k_seq (k_reg h)
theorem k_st {y : Code} (h : SK P w0 y Q n E Z As) : SK P w0 .skip (Exit.then (y.wp P Q) Q) n E Z As := k_skip (xs_then h)
theorem s_nr {ops : Array Oper} {id : Nat} {y : Code} (h : SL P w0 l.toArray (Exit.then (y.wp P Q) Q) n l E Z As) : SL P w0 ops (Exit.then ((Code.seq (.region id l.toArray false) y).wp P Q) Q) n [] E Z As := s_nt (k_sr h)
theorem xcut {ι : Type} {p : ι → Prop} {Ei : ι → Env} {Ai : ι → List Asr} (i : ι) (hA : ∀ H, Holds Z As H → Holds Z (Ai i) H) (hp : p i := by exact trivial) (hE : subB E (Ei i) := by exact sub_of rfl (by repeat first | exact trivial | refine ⟨⟨rfl, rfl⟩, ?_⟩)) : SX w0 .normal (Exit.then (Cut w0 n p Ei Ai Z) Q) n E Z As := xs_cut i hp hE hA
end
end Go.S
