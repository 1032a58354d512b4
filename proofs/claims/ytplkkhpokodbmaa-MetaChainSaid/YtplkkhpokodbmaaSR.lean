/-
  A map that is ranged over while nobody writes it; parts that stay as they are (frozen). No condition but those that each rule says.
-/
import Derived.Test.YtplkkhpokodbmaaSW
import Derived.Laws.IdiomRangeMap
set_option linter.unusedSimpArgs false
set_option linter.unusedVariables false
set_option linter.unusedSectionVars false
namespace Go.S
open Go.Hp Go.J
open Go.Mem (Ty KTy blk Stamps)

section
variable {κ β : Type} [DecidableEq κ]
def bornAt (es : Array MapEntry) (i : Nat) : Nat := ((es.toList.map (·.born))[i]?).getD 0
/-- Block b is a map, block r an iterator over it that has handed out 'done'. -/
def Rg (H : Heap) (K : KTy κ) (V : β → Value) (b r : Nat) (m done : List (κ × β)) : Prop :=
  ∃ (es : Array MapEntry) (clock : Nat) (ix : List Nat), H[b]? = some (.map es clock) ∧ es.toList.map (fun e => (e.key, e.val)) = m.map (fun p => (K.val p.1, V p.2)) ∧ (m.map Prod.fst).Nodup ∧ Stamps es.toList clock
    ∧ H[r]? = some (.mapIter (some b) clock (ix.map (bornAt es)).toArray clock) ∧ ix.Nodup ∧ (∀ i ∈ ix, i < m.length) ∧ done.map some = ix.map (fun i => m[i]?)
theorem Rg.kept {H H' : Heap} {K : KTy κ} {V : β → Value} {b r : Nat} {m done : List (κ × β)} (h : Rg H K V b r m done) (h1 : H'[b]? = H[b]?) (h2 : H'[r]? = H[r]?) : Rg H' K V b r m done := by
  obtain ⟨es, clock, ix, a, e, n, s, c, d⟩ := h
  exact ⟨es, clock, ix, h1.trans a, e, n, s, h2.trans c, d⟩
theorem Rg.start {H' : Heap} {K : KTy κ} {V : β → Value} {b r : Nat} {m : List (κ × β)} {es : Array MapEntry} {clock : Nat} (h1 : H'[b]? = some (.map es clock)) (h2 : es.toList.map (fun e => (e.key, e.val)) = m.map (fun p => (K.val p.1, V p.2))) (h3 : (m.map Prod.fst).Nodup) (h4 : Stamps es.toList clock) (h5 : H'[r]? = some (.mapIter (some b) clock #[] clock)) : Rg H' K V b r m [] :=
  ⟨es, clock, [], h1, h2, h3, h4, h5, List.nodup_nil, by simp, by simp⟩
theorem Rg.mp {H : Heap} {K : KTy κ} {V : β → Value} {b r : Nat} {m done : List (κ × β)} (h : Rg H K V b r m done) : Mp H K V b m := by
  obtain ⟨es, clock, ix, a, e, n, s, _⟩ := h
  exact ⟨es, clock, a, e, n, s⟩
end
section
variable {κ β : Type} [DecidableEq κ] {P : Program} {w0 : World} {ops : Array Oper} {Q : Exit → Act → World → Prop} {n : Nat} {E : Env} {Z : Zone} {As : List Asr} {o : Oper} {rest : List Oper} {K : KTy κ} {V : β → Value} {b r : Nat} {m done : List (κ × β)}
end
section
variable {Z : Zone} {As : List Asr} {H : Heap} {α : Type} {T : Ty α} {v : Value} {L : List α} {F G : Heap → Prop}
end
end Go.S
