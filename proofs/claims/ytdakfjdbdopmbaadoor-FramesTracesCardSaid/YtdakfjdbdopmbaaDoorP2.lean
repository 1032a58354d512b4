/-
  FramesTraces: a traceback has one place for each frame, the last one first, and the lines of a failure; for every list of calls. Condition: the three listed tables of the library hold what the program's text lays.
-/
import Derived.Test.YtdakfjdbdopmbaaDoorP00
import Derived.Test.YtdakfjdbdopmbaaDoorFW2
set_option linter.unusedSimpArgs false
set_option linter.unusedVariables false
set_option maxRecDepth 100000
namespace Go.Proofs.YtdakfjdbdopmbaaDoor
open Fs
open Go.ChangeShapes Go.WideShapes Go.ChangeAt Go.RowKit Go.Hp Go.J Go.S
theorem openOp {H : Type} {enc : TypeId × Value → H} {W : World} {cs : List Value} (h : TrS enc Tryd.prog W 33 cs) : ∃ x, OpnT.enc x = cs ∧ okO x := by
  have hl := trs_len Tryd.underlying33 h 8
  obtain ⟨x0, e0, b0⟩ := trs_int Tryd.underlying3 (trs_field Tryd.underlying33 h 0 3 0 1)
  obtain ⟨x1, e1, b1⟩ := trs_int Tryd.underlying3 (trs_field Tryd.underlying33 h 1 3 1 1)
  obtain ⟨x2, e2, b2⟩ := trs_str Tryd.underlying9 (trs_field Tryd.underlying33 h 2 9 2 1)
  obtain ⟨x3, e3, b3⟩ := trs_int Tryd.underlying3 (trs_field Tryd.underlying33 h 3 3 3 1)
  obtain ⟨x4, e4, b4⟩ := trs_int Tryd.underlying3 (trs_field Tryd.underlying33 h 4 3 4 1)
  obtain ⟨x5, e5, b5⟩ := trs_int Tryd.underlying3 (trs_field Tryd.underlying33 h 5 3 5 1)
  obtain ⟨x6, e6, b6⟩ := trs_int Tryd.underlying3 (trs_field Tryd.underlying33 h 6 3 6 1)
  obtain ⟨x7, e7⟩ := trs_bool Tryd.underlying4 (trs_field Tryd.underlying33 h 7 4 7 1)
  match cs, hl with
  | [c0, c1, c2, c3, c4, c5, c6, c7], _ =>
    obtain rfl : c0 = _ := (List.cons.inj (show [c0] = _ from e0)).1
    obtain rfl : c1 = _ := (List.cons.inj (show [c1] = _ from e1)).1
    obtain rfl : c2 = _ := (List.cons.inj (show [c2] = _ from e2)).1
    obtain rfl : c3 = _ := (List.cons.inj (show [c3] = _ from e3)).1
    obtain rfl : c4 = _ := (List.cons.inj (show [c4] = _ from e4)).1
    obtain rfl : c5 = _ := (List.cons.inj (show [c5] = _ from e5)).1
    obtain rfl : c6 = _ := (List.cons.inj (show [c6] = _ from e6)).1
    obtain rfl : c7 = _ := (List.cons.inj (show [c7] = _ from e7)).1
    exact ⟨⟨x0, x1, x2, x3, x4, x5, x6, x7⟩, rfl, ⟨b3.1, b3.2, by show (x2.size : Int) ≤ _; omega⟩⟩
theorem openOps {H : Type} {enc : TypeId × Value → H} {W : World} {cs : List Value} (h : TrS enc Tryd.prog W 22 cs) : ∃ v L, cs = [v] ∧ Sl W.heap OpnT v L ∧ (∀ y ∈ L, okO y) ∧ L.length * 72 ≤ 140737488351232 :=
  haveI : Inhabited Opn := ⟨OpnT.zero⟩
  trs_slice OpnT_ok Tryd.underlying22 (by kernel_rfl) (fun cs h => openOp h) h
theorem traces_met (os : Os) : laidMet Tryd.prog Rows.framesTracesRow.laid ((laidWorld os).forCall (fun _ _ => 0) ⟨#[], #[.slice none 0 0], []⟩).memory :=
  laidMet_of_run' 8 (by kernel_rfl) (by kernel_rfl)
theorem traces_reads (os : Os) {H : Type} (enc : TypeId × Value → H) : ∃ places, DataW.whole enc Tryd.prog ((laidWorld os).forCall (fun _ _ => 0) ⟨#[], #[.slice none 0 0], []⟩).memory Tryd.f3.params.toList Rows.framesTracesSpec.vars false (#[.slice none 0 0] : Array Value).toList 8 = some ([.nil], [], places) :=
  ⟨[], by kernel_rfl⟩
theorem traces_lifted (os : Os) (started : os.Started) (H : Type) (enc : TypeId × Value → H) (F : Stop.Interp) :
    ReturnsInHanded {} Tryd.checked os 3 .any ((OpenSpec.ofChange Rows.framesTracesSpec).preRow enc Tryd.prog Tryd.f3 Rows.framesTracesRow.domain false Rows.framesTracesRow.laid) (((OpenSpec.ofChange Rows.framesTracesSpec).at F).post enc Tryd.prog Tryd.f3 false true false false) := by
  obtain ⟨places, hx⟩ := traces_reads os enc
  refine returnsInHanded_of_row (C := Tryd.checked) (s := OpenSpec.ofChange Rows.framesTracesSpec) Tryd.own started (by kernel_rfl) Tryd.func3
    (witness_row_at (enc := enc) (C := Tryd.checked) false (laidWorld os) #[.slice none 0 0] rfl (by kernel_rfl) (by kernel_rfl) (by kernel_rfl)
      (OpenSpec.preRow_of_cond 8 hx (by kernel_rfl) (fun k hk => by cases hk) (by kernel_rfl) (traces_met os))) ?_
  intro W base args ds gs before hval0 hW _ _ hw0 hL _ _
  have hval : ∀ (j : Nat) t v, Tryd.f3.params[j]? = some t → args[j]? = some v → Value.okWide Tryd.prog W .any base t v := hval0
  have hw : (DataW.weightsEach Tryd.prog (Tryd.f3.params.toList ++ []) (ds ++ gs)).all (· ≤ reachBytes) = true := hw0
  have hW' := hW
  obtain ⟨p, q, hA0, hV, rfl, hfz, hnd⟩ := hW
  have hA : DataW.TrodAll enc Tryd.prog W 0 (fun _ => true) true Tryd.f3.params.toList args.toList ds p := hA0
  rw [Tryd.params3] at hA hval hw
  obtain ⟨v0, d0, rfl, rfl, h0⟩ := trodAll_one hA
  obtain ⟨rfl, rfl⟩ := trodVars_none hV
  obtain ⟨a0, l0, c0, rfl⟩ := okWide_slice Tryd.underlying22 (hval 0 22 v0 rfl rfl)
  obtain ⟨lv, l, f0, hs, hok, hroom0⟩ := openOps (trs_arg (j := 0) hw rfl rfl h0)
  obtain rfl := (List.cons.inj f0).1
  refine (calls_of_hc ((traces_w (Z := zoneOf W.heap) (tab_of hL) (Kn.of hs) hok).hc.mono (fun v H' ⟨⟨_, hv, _⟩, hc⟩ => ⟨hv, hc⟩))).mono fun e W' ⟨he, hb⟩ => ?_
  subst he
  exact ⟨_, rfl, law_post (tb := 4) Tryd.laidOut (by kernel_rfl) rfl (by kernel_rfl) Tryd.underlying4 hb hW' rfl⟩
theorem traces_said : Rows.FramesTracesSaid :=
  OpenClaim.holds_of_cond 3 Tryd.f3 rfl rfl rfl rfl rfl rfl rfl ⟨rfl, rfl, rfl, rfl, rfl⟩ rfl rfl rfl rfl rfl (by kernel_rfl) Tryd.func3 (by kernel_rfl)
    (of_decide_eq_true (by kernel_rfl)) (by unfold Func.isWrapper; first | (rw [if_pos (by decide +kernel)]; kernel_rfl) | (rw [if_neg (by decide +kernel)]; exact ⟨rfl, rfl⟩))
    (fun os started H enc _ F => by rw [OpenClaim.pre_eq_preRow]; exact traces_lifted os started H enc F)
theorem traces_plain (f : FuncId) (fn : Func) (hf : Tryd.pinned.checked.prog.funcNamed "scripting/scriptinglaw43.FramesTraces" = some f) (hfn : Tryd.pinned.checked.prog.funcs[f]? = some fn) :
    false = Tryd.pinned.checked.prog.looks [] ∧ ∀ (j : Nat) t, fn.params[j]? = some t → Tryd.pinned.checked.prog.wantsStandIn t = false := by
  obtain rfl : f = 3 := Option.some.inj ((show Tryd.prog.funcNamed "scripting/scriptinglaw43.FramesTraces" = some 3 by kernel_rfl).symm.trans hf) |>.symm
  obtain rfl : fn = Tryd.f3 := (Option.some.inj (Tryd.func3.symm.trans hfn)).symm
  refine ⟨by kernel_rfl, fun j t ht => ?_⟩
  rw [Tryd.params3] at ht
  have hm := Array.mem_of_getElem? ht
  simp only [List.mem_toArray, List.mem_cons, List.not_mem_nil, or_false] at hm
  subst hm
  · exact (show Tryd.prog.wantsStandIn 22 = false by kernel_rfl)
/-- FramesTraces, for every input; the row lists three tables of the library, and the card ties them. -/
theorem traces_holds : Rows.FramesTracesCardSaid :=
  Claim7.holds_tied_plain_at .later [] _ _ _ _ traces_said (fun _ h => by cases h) (by kernel_rfl) (fun _ h => by cases h) framesTraces_row_tie rfl ⟨rfl, rfl⟩ (by kernel_rfl) rfl traces_plain (by kernel_rfl)
end Go.Proofs.YtdakfjdbdopmbaaDoor
