/-
  HeapKeeps: what was set last is found; for all calls and values.
-/
import Derived.Test.YtmilekfknhglkaaG5
import Derived.Test.YtmilekfknhglkaaX11
set_option linter.unusedSimpArgs false
set_option linter.unusedVariables false
set_option maxRecDepth 100000
namespace Go.Proofs.Ytmilekfknhglkaa
open Go.S Go.ChangeShapes Go.WideShapes Go.ChangeAt Go.RowKit Go.J
theorem keeps_lifted (os : Os) (started : os.Started) (H : Type) (enc : TypeId × Value → H) :
    ReturnsInHanded {} Try.checked os 6 .any (Rows.heapKeepsSpec.pre6 enc Try.prog Try.f6 Rows.heapKeepsRow.domain false) (Rows.heapKeepsSpec.post enc Try.prog Try.f6 false true false false) := by
  refine returnsInHanded_of_change (C := Try.checked) Try.own started (by kernel_rfl) Try.func6
    (ChangeSpec.witness6 (enc := enc) (C := Try.checked) false ⟨#[], #[.slice none 0 0, .agg #[.int .i64 0, .int .i64 0, .int .i64 0, .string ByteArray.empty, .int .i64 0], .agg #[.int .i64 0, .int .i64 0, .int .i64 0, .string ByteArray.empty, .int .i64 0], .agg #[.int .i64 0, .int .i64 0, .int .i64 0, .string ByteArray.empty, .int .i64 0]], []⟩ 8 (by kernel_rfl) (by kernel_rfl) (by kernel_rfl) (by kernel_rfl)) ?_
  intro W base args ds gs before hval0 hW hcnd _
  have hval : ∀ (j : Nat) t v, Try.f6.params[j]? = some t → args[j]? = some v → Value.okWide Try.prog W .any base t v := hval0
  have hW' := hW
  obtain ⟨p, q, hA0, hV, rfl, hfz, hnd⟩ := hW
  have hA : DataW.TrodAll enc Try.prog W 0 (fun _ => true) true Try.f6.params.toList args.toList ds p := hA0
  rw [Try.params6] at hA hval
  obtain ⟨v0, v1, v2, v3, d0, d1, d2, d3, p0, p1, p2, p3, rfl, rfl, rfl, h0, h1, h2, h3⟩ := trodAll_four hA
  obtain ⟨rfl, rfl⟩ := trodVars_none hV
  obtain ⟨lv, l, f0, hL⟩ := open_cls (show Tr _ _ _ _ (Value.cells v0).toList from by obtain ⟨n, h⟩ := h0; exact ⟨n, _, h⟩)
  obtain ⟨a0, l0, c0, rfl⟩ := okWide_slice Try.underlying30 (hval 0 30 v0 rfl rfl)
  obtain rfl := (List.cons.inj f0).1
  obtain ⟨a1, rfl, _⟩ := okWide_struct Try.underlying26 (hval 1 26 v1 rfl rfl)
  obtain ⟨k, f1⟩ := open_val (show Tr _ _ _ _ (Value.cells (.agg a1)).toList from by obtain ⟨n, h⟩ := h1; exact ⟨n, _, h⟩)
  obtain rfl : a1 = #[.int .i64 k.kind, .int .i64 k.p, .int .i64 k.q, .string k.str, .int .i64 k.ref] := by apply Array.toList_inj.1; exact f1
  obtain ⟨a2, rfl, _⟩ := okWide_struct Try.underlying26 (hval 2 26 v2 rfl rfl)
  obtain ⟨v, f2⟩ := open_val (show Tr _ _ _ _ (Value.cells (.agg a2)).toList from by obtain ⟨n, h⟩ := h2; exact ⟨n, _, h⟩)
  obtain rfl : a2 = #[.int .i64 v.kind, .int .i64 v.p, .int .i64 v.q, .string v.str, .int .i64 v.ref] := by apply Array.toList_inj.1; exact f2
  obtain ⟨a3, rfl, _⟩ := okWide_struct Try.underlying26 (hval 3 26 v3 rfl rfl)
  obtain ⟨other, f3⟩ := open_val (show Tr _ _ _ _ (Value.cells (.agg a3)).toList from by obtain ⟨n, h⟩ := h3; exact ⟨n, _, h⟩)
  obtain rfl : a3 = #[.int .i64 other.kind, .int .i64 other.p, .int .i64 other.q, .string other.str, .int .i64 other.ref] := by apply Array.toList_inj.1; exact f3
  refine (calls_of_hc (((keeps_w hL k v other).hc).mono (fun v H' ⟨⟨_, hv, _⟩, hc⟩ => ⟨hv, hc⟩))).mono fun e W' ⟨he, hb⟩ => ?_
  subst he
  exact ⟨_, rfl, law_post (tb := 4) Try.laidOut (by kernel_rfl) rfl (by kernel_rfl) Try.underlying4 hb hW' rfl⟩
theorem keeps_holds : Rows.HeapKeepsSaid :=
  OpenClaim.holds_of_wide 6 Try.f6 rfl rfl rfl rfl rfl rfl rfl ⟨rfl, rfl, rfl, rfl, rfl⟩ rfl rfl rfl rfl rfl (by kernel_rfl) Try.func6 (by kernel_rfl)
    (of_decide_eq_true (by kernel_rfl)) (by unfold Func.isWrapper; first | (rw [if_pos (by decide +kernel)]; kernel_rfl) | (rw [if_neg (by decide +kernel)]; exact ⟨rfl, rfl⟩))
    (fun os started H enc _ => keeps_lifted os started H enc)
end Go.Proofs.Ytmilekfknhglkaa
