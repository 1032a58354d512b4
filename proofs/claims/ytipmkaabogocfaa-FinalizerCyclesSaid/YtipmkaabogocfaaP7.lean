/-
  FinalizerCycles: a full collection returns the defined graph and freed objects, and separates the defined objects; for every graph and queue.
-/
import Derived.Test.YtipmkaabogocfaaP0
import Derived.Test.YtipmkaabogocfaaF16
set_option linter.unusedSimpArgs false
set_option linter.unusedVariables false
set_option maxRecDepth 100000
namespace Go.Proofs.Ytipmkaabogocfaa
open Go.S Go.ChangeShapes Go.WideShapes Go.ChangeAt Go.RowKit Go.J
theorem fcycles_lifted (os : Os) (started : os.Started) (H : Type) (enc : TypeId × Value → H) :
    ReturnsInHanded {} Try.checked os 5 .any (Rows.finalizerCyclesSpec.pre6 enc Try.prog Try.f5 Rows.finalizerCyclesRow.domain false) (Rows.finalizerCyclesSpec.post enc Try.prog Try.f5 false true false false) := by
  refine returnsInHanded_of_change (C := Try.checked) Try.own started (by kernel_rfl) Try.func5
    (ChangeSpec.witness6 (enc := enc) (C := Try.checked) false ⟨#[], #[.agg #[.slice none 0 0, .slice none 0 0], .slice none 0 0, .int .u8 0], []⟩ 8 (by kernel_rfl) (by kernel_rfl) (by kernel_rfl) (by kernel_rfl)) ?_
  intro W base args ds gs before hval0 hW hcnd _
  have hval : ∀ (j : Nat) t v, Try.f5.params[j]? = some t → args[j]? = some v → Value.okWide Try.prog W .any base t v := hval0
  have hW' := hW
  obtain ⟨p, q, hA0, hV, rfl, hfz, hnd⟩ := hW
  have hA : DataW.TrodAll enc Try.prog W 0 (fun _ => true) true Try.f5.params.toList args.toList ds p := hA0
  rw [Try.params5] at hA hval
  obtain ⟨v0, v1, v2, d0, d1, d2, p0, p1, p2, rfl, rfl, rfl, h0, h1, h2⟩ := trodAll_three hA
  obtain ⟨rfl, rfl⟩ := trodVars_none hV
  obtain ⟨a0, rfl, _⟩ := okWide_struct Try.underlying44 (hval 0 44 v0 rfl rfl)
  obtain ⟨ov, rv, l, R, f0, hgr⟩ := open_gr (show Tr _ _ _ _ (Value.cells (.agg a0)).toList from by obtain ⟨n, h⟩ := h0; exact ⟨n, _, h⟩)
  obtain rfl : a0 = #[ov, rv] := by apply Array.toList_inj.1; exact f0
  obtain ⟨xv, X, f1, hx⟩ := open_ints (show Tr _ _ _ _ (Value.cells v1).toList from by obtain ⟨n, h⟩ := h1; exact ⟨n, _, h⟩)
  obtain ⟨a1, l1, c1, rfl⟩ := okWide_slice Try.underlying22 (hval 1 22 v1 rfl rfl)
  obtain rfl := (List.cons.inj f1).1
  obtain ⟨n, rfl, rfl, rfl, wn⟩ := open_int Try.underlying5 (hval 2 5 v2 rfl rfl) h2
  have hn : 0 ≤ n ∧ n ≤ 255 := u8_of wn
  refine (calls_of_hc (((cycles_w hgr.kn (Kn.of hx) hn).hc).mono (fun v H' ⟨⟨_, hv, _⟩, hc⟩ => ⟨hv, hc⟩))).mono fun e W' ⟨he, hb⟩ => ?_
  subst he
  exact ⟨_, rfl, law_post (tb := 4) Try.laidOut (by kernel_rfl) rfl (by kernel_rfl) Try.underlying4 hb hW' rfl⟩
theorem fcycles_holds : Rows.FinalizerCyclesSaid :=
  OpenClaim.holds_of_wide 5 Try.f5 rfl rfl rfl rfl rfl rfl rfl ⟨rfl, rfl, rfl, rfl, rfl⟩ rfl rfl rfl rfl rfl (by kernel_rfl) Try.func5 (by kernel_rfl)
    (of_decide_eq_true (by kernel_rfl)) (by unfold Func.isWrapper; first | (rw [if_pos (by decide +kernel)]; kernel_rfl) | (rw [if_neg (by decide +kernel)]; exact ⟨rfl, rfl⟩))
    (fun os started H enc _ => fcycles_lifted os started H enc)
end Go.Proofs.Ytipmkaabogocfaa
