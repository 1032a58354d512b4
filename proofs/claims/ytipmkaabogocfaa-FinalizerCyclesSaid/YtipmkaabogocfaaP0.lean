/-
  What the rows of layer 27 share: graphs that came in.
-/
import Derived.Test.YtipmkaabogocfaaF7
import Derived.Test.YtipmkaabogocfaaJU
import Derived.Test.YtipmkaabogocfaaRows
set_option linter.unusedSimpArgs false
set_option linter.unusedVariables false
namespace Go.Proofs.Ytipmkaabogocfaa
open Go.RowKit Go.J Go.S Go.Hp Go.ChangeShapes Go.WideShapes
theorem Try.own : ownKnob Try.prog.godebug = none := by kernel_rfl
theorem Try.laidOut : laidOutB Try.prog = true := by kernel_rfl
instance : Inhabited Ob := ⟨ObT.zero⟩
instance : Inhabited Ent := ⟨⟨0, 0⟩⟩
instance : Inhabited Cl := ⟨ClT.zero⟩
theorem u8_of {n : Int} (h : (Lit.int .u8 n).wf = true) : 0 ≤ n ∧ n ≤ 255 := by
  simp [Lit.wf, IntKind.min, IntKind.max, IntKind.bits, IntKind.signed] at h
  omega
section
variable {H : Type} {enc : TypeId × Value → H} {W : World}
theorem open_ints {cs : List Value} (h : Tr enc Try.prog W 22 cs) : ∃ v L, cs = [v] ∧ Sl W.heap iTy v L := by
  obtain ⟨v, L, h1, h2, _⟩ := tr_sliceQ (Q := fun _ => True) iTy_ok Try.underlying22 (by kernel_rfl) (fun cs h => by obtain ⟨n, e, _⟩ := tr_int Try.underlying3 h; exact ⟨n, e.symm, trivial⟩) h
  exact ⟨v, L, h1, h2⟩
theorem open_ent {cs : List Value} (h : Tr enc Try.prog W 95 cs) : ∃ x, EntT.enc x = cs ∧ True := by
  have hl : cs.length = 2 := (tr_len Try.underlying95 h).trans (by kernel_rfl)
  obtain ⟨a, ea, _⟩ := tr_int Try.underlying3 (tr_fieldC Try.underlying95 h 0 3 0 1)
  obtain ⟨b, eb, _⟩ := tr_int Try.underlying3 (tr_fieldC Try.underlying95 h 1 3 1 1)
  match cs, hl with
  | [c0, c1], _ =>
    obtain rfl : c0 = _ := (List.cons.inj (show [c0] = _ from ea)).1
    obtain rfl : c1 = _ := (List.cons.inj (show [c1] = _ from eb)).1
    exact ⟨⟨a, b⟩, rfl, trivial⟩
theorem open_ents {cs : List Value} (h : Tr enc Try.prog W 72 cs) : ∃ v L, cs = [v] ∧ Sl W.heap EntT v L := by
  obtain ⟨v, L, h1, h2, _⟩ := tr_sliceQ (Q := fun _ => True) EntT_ok Try.underlying72 (by kernel_rfl) (fun cs h => open_ent h) h
  exact ⟨v, L, h1, h2⟩
theorem open_ob {cs : List Value} (h : Tr enc Try.prog W 74 cs) : ∃ x, ObT.enc x = cs ∧ (Sl W.heap iTy x.rv.v x.refs ∧ Sl W.heap EntT x.ev.v x.ents) := by
  have hl : cs.length = 5 := (tr_len Try.underlying74 h).trans (by kernel_rfl)
  obtain ⟨a, ea, _⟩ := tr_int Try.underlying3 (tr_fieldC Try.underlying74 h 0 3 0 1)
  obtain ⟨b, eb, _⟩ := tr_int Try.underlying3 (tr_fieldC Try.underlying74 h 1 3 1 1)
  obtain ⟨c, ec, _⟩ := tr_int Try.underlying3 (tr_fieldC Try.underlying74 h 2 3 2 1)
  obtain ⟨v, L, ev, hv⟩ := open_ints (tr_fieldC Try.underlying74 h 3 22 3 1)
  obtain ⟨u, N, eu, hu⟩ := open_ents (tr_fieldC Try.underlying74 h 4 72 4 1)
  obtain ⟨p1, c1, rfl⟩ := hv.form
  obtain ⟨p2, c2, rfl⟩ := hu.form
  match cs, hl with
  | [x0, x1, x2, x3, x4], _ =>
    obtain rfl : x0 = _ := (List.cons.inj (show [x0] = _ from ea)).1
    obtain rfl : x1 = _ := (List.cons.inj (show [x1] = _ from eb)).1
    obtain rfl : x2 = _ := (List.cons.inj (show [x2] = _ from ec)).1
    obtain rfl : x3 = _ := (List.cons.inj (show [x3] = _ from ev)).1
    obtain rfl : x4 = _ := (List.cons.inj (show [x4] = _ from eu)).1
    exact ⟨⟨a, b, c, ⟨p1, L.length, c1⟩, ⟨p2, N.length, c2⟩, L, N⟩, rfl, hv, hu⟩
theorem open_gr {cs : List Value} (h : Tr enc Try.prog W 44 cs) : ∃ ov rv l R, cs = [ov, rv] ∧ GrA ov rv l R W.heap := by
  have hl : cs.length = 2 := (tr_len Try.underlying44 h).trans (by kernel_rfl)
  obtain ⟨ov, l, eo, ho, hq⟩ := tr_sliceQ ObT_ok Try.underlying42 (by kernel_rfl) (fun cs h => open_ob h) (tr_fieldC Try.underlying44 h 0 42 0 1)
  obtain ⟨rv, R, er, hr⟩ := open_ints (tr_fieldC Try.underlying44 h 1 22 1 1)
  match cs, hl with
  | [x0, x1], _ =>
    obtain rfl : x0 = _ := (List.cons.inj (show [x0] = _ from eo)).1
    obtain rfl : x1 = _ := (List.cons.inj (show [x1] = _ from er)).1
    exact ⟨x0, x1, l, R, rfl, ho, hr, hq⟩
theorem open_cl {cs : List Value} (h : Tr enc Try.prog W 40 cs) : ∃ x, ClT.enc x = cs ∧ Sl W.heap iTy x.av.v x.alive := by
  have hl : cs.length = 3 := (tr_len Try.underlying40 h).trans (by kernel_rfl)
  obtain ⟨a, ea, _⟩ := tr_int Try.underlying3 (tr_fieldC Try.underlying40 h 0 3 0 1)
  obtain ⟨b, eb, _⟩ := tr_int Try.underlying3 (tr_fieldC Try.underlying40 h 1 3 1 1)
  obtain ⟨v, L, ev, hv⟩ := open_ints (tr_fieldC Try.underlying40 h 2 22 2 1)
  obtain ⟨p1, c1, rfl⟩ := hv.form
  match cs, hl with
  | [x0, x1, x2], _ =>
    obtain rfl : x0 = _ := (List.cons.inj (show [x0] = _ from ea)).1
    obtain rfl : x1 = _ := (List.cons.inj (show [x1] = _ from eb)).1
    obtain rfl : x2 = _ := (List.cons.inj (show [x2] = _ from ev)).1
    exact ⟨⟨a, b, ⟨p1, L.length, c1⟩, L⟩, rfl, hv⟩
theorem open_cls {cs : List Value} (h : Tr enc Try.prog W 32 cs) : ∃ v L, cs = [v] ∧ Sl W.heap ClT v L ∧ ∀ x ∈ L, Sl W.heap iTy x.av.v x.alive :=
  tr_sliceQ ClT_ok Try.underlying32 (by kernel_rfl) (fun cs h => open_cl h) h
end
end Go.Proofs.Ytipmkaabogocfaa
