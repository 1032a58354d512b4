/-
  Drawn regions where two operations may come up next: both ways are walked.
-/
import Derived.Test.YtjdlkemmcnncaaaSU
set_option linter.unusedSimpArgs false
set_option linter.unusedVariables false
namespace Go.J
open Go.Hp
variable {P : Program} {w0 : World} {Q : Exit → Act → World → Prop} {n : Nat} {E : Env} {H : Heap} {o o' : Oper} {l : List Oper} {S : Heap → Prop} {fuel : Nat} {listed : Array Bool}
theorem h_step2 (i j : Nat) (hi : l[i]? = some o) (hj : l[j]? = some o') (hr : Region.ready .any l.toArray listed = [i, j])
    (h : JL P w0 l.toArray (heldQ P l Q S fuel (listed.setIfInBounds i true)) n [o] E H)
    (h' : JL P w0 l.toArray (heldQ P l Q S fuel (listed.setIfInBounds j true)) n [o'] E H) : JH P w0 l Q n S (fuel + 1) listed E H := by
  intro a w hf ha
  refine wpAnyH_all hr (by simp) ?_
  intro k hk
  rcases List.mem_cons.1 hk with rfl | hk
  · have := h a w hf ha
    unfold wpOp
    rw [show l.toArray[k]? = some o by simpa using hi]
    exact this
  · rw [List.mem_singleton] at hk
    subst hk
    have := h' a w hf ha
    unfold wpOp
    rw [show l.toArray[k]? = some o' by simpa using hj]
    exact this
end Go.J
namespace Go.S
open Go.Hp Go.J
variable {P : Program} {w0 : World} {Q : Exit → Act → World → Prop} {n : Nat} {E : Env} {Z : Zone} {As : List Asr} {o o' : Oper} {l : List Oper} {Ks : List Asr} {fuel : Nat} {listed : Array Bool}
theorem h_stepS2 (i j : Nat) (h : SL P w0 l.toArray (heldQ P l Q (HS Z Ks) fuel (listed.setIfInBounds i true)) n [o] E Z As) (h' : SL P w0 l.toArray (heldQ P l Q (HS Z Ks) fuel (listed.setIfInBounds j true)) n [o'] E Z As) (hi : l[i]? = some o := by rfl) (hj : l[j]? = some o' := by rfl) (hr : Region.ready .any l.toArray listed = [i, j] := by kernel_rfl) : SH P w0 l Q n Z Ks (fuel + 1) listed E As :=
  fun H hH => h_step2 i j hi hj hr (h H hH) (h' H hH)
end Go.S
