/-
  What the rows of layer 26 share: graphs that came in.
-/
import Derived.Test.YtjdlkemmcnncaaaW7
import Derived.Test.YtjdlkemmcnncaaaJU
import Derived.Test.YtjdlkemmcnncaaaRows
set_option linter.unusedSimpArgs false
set_option linter.unusedVariables false
namespace Go.Proofs.Ytjdlkemmcnncaaa
open Go.RowKit Go.J Go.S Go.Hp Go.ChangeShapes Go.WideShapes
theorem Try.own : ownKnob Try.prog.godebug = none := by kernel_rfl
theorem Try.laidOut : laidOutB Try.prog = true := by kernel_rfl
instance : Inhabited Ob := ⟨ObT.zero⟩
instance : Inhabited Ent := ⟨⟨0, 0⟩⟩
section
variable {H : Type} {enc : TypeId × Value → H} {W : World}
theorem open_ints {cs : List Value} (h : Tr enc Try.prog W 23 cs) : ∃ v L, cs = [v] ∧ Sl W.heap iTy v L := by
  obtain ⟨v, L, h1, h2, _⟩ := tr_sliceQ (Q := fun _ => True) iTy_ok Try.underlying23 (by kernel_rfl) (fun cs h => by obtain ⟨n, e, _⟩ := tr_int Try.underlying3 h; exact ⟨n, e.symm, trivial⟩) h
  exact ⟨v, L, h1, h2⟩
theorem open_ent {cs : List Value} (h : Tr enc Try.prog W 45 cs) : ∃ x, EntT.enc x = cs ∧ True := by
  have hl : cs.length = 2 := (tr_len Try.underlying45 h).trans (by kernel_rfl)
  obtain ⟨a, ea, _⟩ := tr_int Try.underlying3 (tr_fieldC Try.underlying45 h 0 3 0 1)
  obtain ⟨b, eb, _⟩ := tr_int Try.underlying3 (tr_fieldC Try.underlying45 h 1 3 1 1)
  match cs, hl with
  | [c0, c1], _ =>
    obtain rfl : c0 = _ := (List.cons.inj (show [c0] = _ from ea)).1
    obtain rfl : c1 = _ := (List.cons.inj (show [c1] = _ from eb)).1
    exact ⟨⟨a, b⟩, rfl, trivial⟩
theorem open_ents {cs : List Value} (h : Tr enc Try.prog W 40 cs) : ∃ v L, cs = [v] ∧ Sl W.heap EntT v L := by
  obtain ⟨v, L, h1, h2, _⟩ := tr_sliceQ (Q := fun _ => True) EntT_ok Try.underlying40 (by kernel_rfl) (fun cs h => open_ent h) h
  exact ⟨v, L, h1, h2⟩
theorem open_ob {cs : List Value} (h : Tr enc Try.prog W 42 cs) : ∃ x, ObT.enc x = cs ∧ (Sl W.heap iTy x.rv.v x.refs ∧ Sl W.heap EntT x.ev.v x.ents) := by
  have hl : cs.length = 5 := (tr_len Try.underlying42 h).trans (by kernel_rfl)
  obtain ⟨a, ea, _⟩ := tr_int Try.underlying3 (tr_fieldC Try.underlying42 h 0 3 0 1)
  obtain ⟨b, eb, _⟩ := tr_int Try.underlying3 (tr_fieldC Try.underlying42 h 1 3 1 1)
  obtain ⟨c, ec, _⟩ := tr_int Try.underlying3 (tr_fieldC Try.underlying42 h 2 3 2 1)
  obtain ⟨v, L, ev, hv⟩ := open_ints (tr_fieldC Try.underlying42 h 3 23 3 1)
  obtain ⟨u, N, eu, hu⟩ := open_ents (tr_fieldC Try.underlying42 h 4 40 4 1)
  obtain ⟨p1, c1, rfl⟩ := hv.form
  obtain ⟨p2, c2, rfl⟩ := hu.form
  match cs, hl with
  | [x0, x1, x2, x3, x4], _ =>
    obtain rfl : x0 = _ := (List.cons.inj (show [x0] = _ from ea)).1
    obtain rfl : x1 = _ := (List.cons.inj (show [x1] = _ from eb)).1
    obtain rfl : x2 = _ := (List.cons.inj (show [x2] = _ from ec)).1
    obtain rfl : x3 = _ := (List.cons.inj (show [x3] = _ from ev)).1
    obtain rfl : x4 = _ := (List.cons.inj (show [x4] = _ from eu)).1
    exact ⟨⟨a, b, c, ⟨p1, L.length, c1⟩, ⟨p2, N.length, c2⟩, L, N⟩, rfl, hv, hu⟩
theorem open_gr {cs : List Value} (h : Tr enc Try.prog W 25 cs) : ∃ ov rv l R, cs = [ov, rv] ∧ GrA ov rv l R W.heap := by
  have hl : cs.length = 2 := (tr_len Try.underlying25 h).trans (by kernel_rfl)
  obtain ⟨ov, l, eo, ho, hq⟩ := tr_sliceQ ObT_ok Try.underlying22 (by kernel_rfl) (fun cs h => open_ob h) (tr_fieldC Try.underlying25 h 0 22 0 1)
  obtain ⟨rv, R, er, hr⟩ := open_ints (tr_fieldC Try.underlying25 h 1 23 1 1)
  match cs, hl with
  | [x0, x1], _ =>
    obtain rfl : x0 = _ := (List.cons.inj (show [x0] = _ from eo)).1
    obtain rfl : x1 = _ := (List.cons.inj (show [x1] = _ from er)).1
    exact ⟨x0, x1, l, R, rfl, ho, hr, hq⟩
end
end Go.Proofs.Ytjdlkemmcnncaaa
