/-
  The rows of layer 43: Fit, Enter, scripts.
-/
import Derived.Test.YtikbimlfbcffhaaW5
import Derived.Test.YtikbimlfbcffhaaJR
set_option linter.unusedSimpArgs false
set_option linter.unusedVariables false
set_option maxRecDepth 100000
namespace Go.Proofs.Ytikbimlfbcffhaa
open Go.ChangeShapes Go.WideShapes Go.ChangeAt Go.RowKit Go.J
theorem Try.own : ownKnob Try.prog.godebug = none := by kernel_rfl
theorem Try.laidOut : laidOutB Try.prog = true := by kernel_rfl
instance : Inhabited Vl := ⟨zVl⟩
instance : Inhabited Opn := ⟨⟨0, 0, ByteArray.empty, 0, 0, 0, 0, false⟩⟩
theorem fit_int {v : Value} (h : fitsK 0 v = true) : ∃ n, v = .int .i64 n := by
  cases v <;> simp [fitsK] at h
  rename_i k n
  cases k <;> simp [fitsK] at h
  exact ⟨n, rfl⟩
theorem fit_str {v : Value} (h : fitsK 1 v = true) : ∃ n, v = .string n := by
  cases v <;> simp [fitsK] at h
  exact ⟨_, rfl⟩
theorem fit_bool {v : Value} (h : fitsK 2 v = true) : ∃ n, v = .bool n := by
  cases v <;> simp [fitsK] at h
  exact ⟨_, rfl⟩
theorem decVl (cs : List Value) (h : fitsL [0, 0, 0, 1, 0] cs = true) : ∃ x, VlT.enc x = cs := by
  match cs, h with
  | [a, b, c, d, e], h =>
    simp only [fitsL, Bool.and_eq_true] at h
    obtain ⟨a, rfl⟩ := fit_int h.1; obtain ⟨b, rfl⟩ := fit_int h.2.1; obtain ⟨c, rfl⟩ := fit_int h.2.2.1; obtain ⟨d, rfl⟩ := fit_str h.2.2.2.1; obtain ⟨e, rfl⟩ := fit_int h.2.2.2.2.1
    exact ⟨⟨a, b, c, d, e⟩, rfl⟩
  | [], h => simp [fitsL] at h
  | [_], h => simp [fitsL] at h
  | [_, _], h => simp [fitsL] at h
  | [_, _, _], h => simp [fitsL] at h
  | [_, _, _, _], h => simp [fitsL] at h
  | _ :: _ :: _ :: _ :: _ :: _ :: _, h => simp [fitsL] at h
theorem decOp (cs : List Value) (h : fitsL [0, 0, 1, 0, 0, 0, 0, 2] cs = true) : ∃ x, OpT.enc x = cs := by
  have hl := fitsL_len h
  match cs, hl, h with
  | [a, b, c, d, e, f, g, i], _, h =>
    simp only [fitsL, Bool.and_eq_true] at h
    obtain ⟨a, rfl⟩ := fit_int h.1; obtain ⟨b, rfl⟩ := fit_int h.2.1; obtain ⟨c, rfl⟩ := fit_str h.2.2.1; obtain ⟨d, rfl⟩ := fit_int h.2.2.2.1; obtain ⟨e, rfl⟩ := fit_int h.2.2.2.2.1; obtain ⟨f, rfl⟩ := fit_int h.2.2.2.2.2.1; obtain ⟨g, rfl⟩ := fit_int h.2.2.2.2.2.2.1; obtain ⟨i, rfl⟩ := fit_bool h.2.2.2.2.2.2.2.1
    exact ⟨⟨a, b, c, d, e, f, g, i⟩, rfl⟩
theorem fits_lifted (os : Os) (started : os.Started) (H : Type) (enc : TypeId × Value → H) :
    ReturnsInHanded {} Try.checked os 4 .any (Rows.framesFitsSpec.pre6 enc Try.prog Try.f4 Rows.framesFitsRow.domain false) (Rows.framesFitsSpec.post enc Try.prog Try.f4 false true false false) := by
  refine returnsInHanded_of_change (C := Try.checked) Try.own started (by kernel_rfl) Try.func4
    (ChangeSpec.witness6 (enc := enc) (C := Try.checked) false ⟨#[], #[.slice none 0 0, .int .i64 0], []⟩ 8 (by kernel_rfl) (by kernel_rfl) (by kernel_rfl) (by kernel_rfl)) ?_
  intro W base args ds gs before hval0 hW hcnd _
  have hval : ∀ (j : Nat) t v, Try.f4.params[j]? = some t → args[j]? = some v → Value.okWide Try.prog W .any base t v := hval0
  have hW' := hW
  obtain ⟨p, q, hA0, hV, rfl, hfz, hnd⟩ := hW
  have hA : DataW.TrodAll enc Try.prog W 0 (fun _ => true) true Try.f4.params.toList args.toList ds p := hA0
  rw [Try.params4] at hA hval
  obtain ⟨v0, v1, d0, d1, p0, p1, rfl, rfl, rfl, h0, h1⟩ := trodAll_two hA
  obtain ⟨rfl, rfl⟩ := trodVars_none hV
  obtain ⟨l, hL⟩ := open_sl VlT_ok Try.underlying36 [0, 0, 0, 1, 0] (by kernel_rfl) (by kernel_rfl) rfl decVl (hval 0 36 v0 rfl rfl) h0
  obtain ⟨n, rfl, rfl, rfl, wn⟩ := open_int Try.underlying3 (hval 1 3 v1 rfl rfl) h1
  refine (calls_of_hc (fits_ok W.heap v0 l n hL)).mono fun e W' ⟨he, hb⟩ => ?_
  subst he
  exact ⟨_, rfl, law_post (tb := 4) Try.laidOut (by kernel_rfl) rfl (by kernel_rfl) Try.underlying4 hb hW' rfl⟩
theorem fits_holds : Rows.FramesFitsSaid :=
  OpenClaim.holds_of_wide 4 Try.f4 rfl rfl rfl rfl rfl rfl rfl ⟨rfl, rfl, rfl, rfl, rfl⟩ rfl rfl rfl rfl rfl (by kernel_rfl) Try.func4 (by kernel_rfl)
    (of_decide_eq_true (by kernel_rfl)) (by unfold Func.isWrapper; first | (rw [if_pos (by decide +kernel)]; kernel_rfl) | (rw [if_neg (by decide +kernel)]; exact ⟨rfl, rfl⟩))
    (fun os started H enc _ => fits_lifted os started H enc)
end Go.Proofs.Ytikbimlfbcffhaa
