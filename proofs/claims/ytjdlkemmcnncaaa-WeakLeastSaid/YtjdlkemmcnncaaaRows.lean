/-
  No cell of these rows narrows 'for every input' (looked for: loops, veiled, ifaces, maps, wideKeys, modest, calm, conditions, laid).
  DERIVED. THE GIVEN ROWS OF THIS SEAT. 8 by the template 'for every input the law returns true; each argument reads behind the call as it read before'; 0 by the template 'total and deterministic' (their statements: YtjdlkemmcnncaaaTotals.lean).
  GIVEN WITH THE SEED: the statements are not yours to turn. If you find one false, say at which input.
  Laid BY PROGRAM, IN A SANDBOX (cutbox-rows.mjs): the forced cells as the released guide's own fill.sh prints them over the translation b25dd6c8ad845090… (all of the seat's roots in one cut). By AI agents, Wed Nov 11 2026. No macro, syntax, notation, axiom, sorry.
-/
import Derived.Test.YtjdlkemmcnncaaaChecked
import GoSem.Claim
import GoSem.ClaimJoined
import GoSem.ClaimMapViews
import Derived.JoinedTies
import Derived.KernelRfl
namespace Go.Proofs.Ytjdlkemmcnncaaa
/- THE CELL 'sum', in the pinned program and in every row, IS THE sha256 OF THE DUMP (.gsa) THAT YtjdlkemmcnncaaaProg.lean LOADS. Nothing in Lean hashes anything: it is a label: what it is worth is what the hold of that sum in a sandbox is worth. -/
noncomputable def Try.pinned : Pinned := { name := "ytjdlkemmcnncaaa", sum := "b25dd6c8ad845090b580b98423d24e420977485a8e1b9b859a6037cd855a7737", checked := Try.checked }
namespace Rows
def none {H : Type} : Left H := { results := [], args := [] }

/-- 'scriptinglaw26.WeakAlive': WHATEVER THE INPUT: true; the input reads as it did. -/
def weakAliveSpec : ChangeSpec := { name := "weakAlive", fn := fun _ => fun
  | [d] => { results := [.lit (.bool true)], args := [d] }
  | _ => none }
def weakAliveRow : OpenClaim := { program := "ytjdlkemmcnncaaa", sum := "b25dd6c8ad845090b580b98423d24e420977485a8e1b9b859a6037cd855a7737", func := "scripting/scriptinglaw26.WeakAlive", spec := "weakAlive", recurses := true, apart := false }
def WeakAliveSaid : Prop := weakAliveRow.holds Try.pinned (OpenSpec.ofChange weakAliveSpec)

/-- ITS FALSE NEIGHBOUR: 'it returns false'. Refute it at one input. -/
def weakAliveWrong : ChangeSpec := { name := "weakAlive", fn := fun _ => fun
  | [d] => { results := [.lit (.bool false)], args := [d] }
  | _ => none }
def WeakAliveWrongFalsely : Prop := weakAliveRow.holds Try.pinned (OpenSpec.ofChange weakAliveWrong)

/-- 'scriptinglaw26.WeakClears': WHATEVER THE INPUT: true; the input reads as it did. -/
def weakClearsSpec : ChangeSpec := { name := "weakClears", fn := fun _ => fun
  | [d1, d2] => { results := [.lit (.bool true)], args := [d1, d2] }
  | _ => none }
def weakClearsRow : OpenClaim := { program := "ytjdlkemmcnncaaa", sum := "b25dd6c8ad845090b580b98423d24e420977485a8e1b9b859a6037cd855a7737", func := "scripting/scriptinglaw26.WeakClears", spec := "weakClears", recurses := true, apart := false }
def WeakClearsSaid : Prop := weakClearsRow.holds Try.pinned (OpenSpec.ofChange weakClearsSpec)

/-- ITS FALSE NEIGHBOUR: 'it returns false'. Refute it at one input. -/
def weakClearsWrong : ChangeSpec := { name := "weakClears", fn := fun _ => fun
  | [d1, d2] => { results := [.lit (.bool false)], args := [d1, d2] }
  | _ => none }
def WeakClearsWrongFalsely : Prop := weakClearsRow.holds Try.pinned (OpenSpec.ofChange weakClearsWrong)

/-- 'scriptinglaw26.WeakCollects': WHATEVER THE INPUT: true; the input reads as it did. -/
def weakCollectsSpec : ChangeSpec := { name := "weakCollects", fn := fun _ => fun
  | [d] => { results := [.lit (.bool true)], args := [d] }
  | _ => none }
def weakCollectsRow : OpenClaim := { program := "ytjdlkemmcnncaaa", sum := "b25dd6c8ad845090b580b98423d24e420977485a8e1b9b859a6037cd855a7737", func := "scripting/scriptinglaw26.WeakCollects", spec := "weakCollects", recurses := true, apart := false }
def WeakCollectsSaid : Prop := weakCollectsRow.holds Try.pinned (OpenSpec.ofChange weakCollectsSpec)

/-- ITS FALSE NEIGHBOUR: 'it returns false'. Refute it at one input. -/
def weakCollectsWrong : ChangeSpec := { name := "weakCollects", fn := fun _ => fun
  | [d] => { results := [.lit (.bool false)], args := [d] }
  | _ => none }
def WeakCollectsWrongFalsely : Prop := weakCollectsRow.holds Try.pinned (OpenSpec.ofChange weakCollectsWrong)

/-- 'scriptinglaw26.WeakRounds': WHATEVER THE INPUT: true; the input reads as it did. -/
def weakRoundsSpec : ChangeSpec := { name := "weakRounds", fn := fun _ => fun
  | [d] => { results := [.lit (.bool true)], args := [d] }
  | _ => none }
def weakRoundsRow : OpenClaim := { program := "ytjdlkemmcnncaaa", sum := "b25dd6c8ad845090b580b98423d24e420977485a8e1b9b859a6037cd855a7737", func := "scripting/scriptinglaw26.WeakRounds", spec := "weakRounds", recurses := true, apart := false }
def WeakRoundsSaid : Prop := weakRoundsRow.holds Try.pinned (OpenSpec.ofChange weakRoundsSpec)

/-- ITS FALSE NEIGHBOUR: 'it returns false'. Refute it at one input. -/
def weakRoundsWrong : ChangeSpec := { name := "weakRounds", fn := fun _ => fun
  | [d] => { results := [.lit (.bool false)], args := [d] }
  | _ => none }
def WeakRoundsWrongFalsely : Prop := weakRoundsRow.holds Try.pinned (OpenSpec.ofChange weakRoundsWrong)

/-- 'scriptinglaw26.WeakEntries': WHATEVER THE INPUT: true; the input reads as it did. -/
def weakEntriesSpec : ChangeSpec := { name := "weakEntries", fn := fun _ => fun
  | [d] => { results := [.lit (.bool true)], args := [d] }
  | _ => none }
def weakEntriesRow : OpenClaim := { program := "ytjdlkemmcnncaaa", sum := "b25dd6c8ad845090b580b98423d24e420977485a8e1b9b859a6037cd855a7737", func := "scripting/scriptinglaw26.WeakEntries", spec := "weakEntries", recurses := true, apart := false }
def WeakEntriesSaid : Prop := weakEntriesRow.holds Try.pinned (OpenSpec.ofChange weakEntriesSpec)

/-- ITS FALSE NEIGHBOUR: 'it returns false'. Refute it at one input. -/
def weakEntriesWrong : ChangeSpec := { name := "weakEntries", fn := fun _ => fun
  | [d] => { results := [.lit (.bool false)], args := [d] }
  | _ => none }
def WeakEntriesWrongFalsely : Prop := weakEntriesRow.holds Try.pinned (OpenSpec.ofChange weakEntriesWrong)

/-- 'scriptinglaw26.WeakAgain': WHATEVER THE INPUT: true; the input reads as it did. -/
def weakAgainSpec : ChangeSpec := { name := "weakAgain", fn := fun _ => fun
  | [d] => { results := [.lit (.bool true)], args := [d] }
  | _ => none }
def weakAgainRow : OpenClaim := { program := "ytjdlkemmcnncaaa", sum := "b25dd6c8ad845090b580b98423d24e420977485a8e1b9b859a6037cd855a7737", func := "scripting/scriptinglaw26.WeakAgain", spec := "weakAgain", recurses := true, apart := false }
def WeakAgainSaid : Prop := weakAgainRow.holds Try.pinned (OpenSpec.ofChange weakAgainSpec)

/-- ITS FALSE NEIGHBOUR: 'it returns false'. Refute it at one input. -/
def weakAgainWrong : ChangeSpec := { name := "weakAgain", fn := fun _ => fun
  | [d] => { results := [.lit (.bool false)], args := [d] }
  | _ => none }
def WeakAgainWrongFalsely : Prop := weakAgainRow.holds Try.pinned (OpenSpec.ofChange weakAgainWrong)

/-- 'scriptinglaw26.WeakGrows': WHATEVER THE INPUT: true; the input reads as it did. -/
def weakGrowsSpec : ChangeSpec := { name := "weakGrows", fn := fun _ => fun
  | [d1, d2] => { results := [.lit (.bool true)], args := [d1, d2] }
  | _ => none }
def weakGrowsRow : OpenClaim := { program := "ytjdlkemmcnncaaa", sum := "b25dd6c8ad845090b580b98423d24e420977485a8e1b9b859a6037cd855a7737", func := "scripting/scriptinglaw26.WeakGrows", spec := "weakGrows", recurses := true, apart := false }
def WeakGrowsSaid : Prop := weakGrowsRow.holds Try.pinned (OpenSpec.ofChange weakGrowsSpec)

/-- ITS FALSE NEIGHBOUR: 'it returns false'. Refute it at one input. -/
def weakGrowsWrong : ChangeSpec := { name := "weakGrows", fn := fun _ => fun
  | [d1, d2] => { results := [.lit (.bool false)], args := [d1, d2] }
  | _ => none }
def WeakGrowsWrongFalsely : Prop := weakGrowsRow.holds Try.pinned (OpenSpec.ofChange weakGrowsWrong)

/-- 'scriptinglaw26.WeakLeast': WHATEVER THE INPUT: true; the input reads as it did. -/
def weakLeastSpec : ChangeSpec := { name := "weakLeast", fn := fun _ => fun
  | [d] => { results := [.lit (.bool true)], args := [d] }
  | _ => none }
def weakLeastRow : OpenClaim := { program := "ytjdlkemmcnncaaa", sum := "b25dd6c8ad845090b580b98423d24e420977485a8e1b9b859a6037cd855a7737", func := "scripting/scriptinglaw26.WeakLeast", spec := "weakLeast", unfollowed := true, recurses := true, apart := false }
def WeakLeastSaid : Prop := weakLeastRow.holds Try.pinned (OpenSpec.ofChange weakLeastSpec)

/-- ITS FALSE NEIGHBOUR: 'it returns false'. Refute it at one input. -/
def weakLeastWrong : ChangeSpec := { name := "weakLeast", fn := fun _ => fun
  | [d] => { results := [.lit (.bool false)], args := [d] }
  | _ => none }
def WeakLeastWrongFalsely : Prop := weakLeastRow.holds Try.pinned (OpenSpec.ofChange weakLeastWrong)

/- THE SECOND FORM. 'bulk': how many values and letters a reading holds, each counted each time it is reached (what is shared counts as often as it is met; a slice's spare places count too). A statement '..UptoSaid' is the law's where the arguments, and the package variables that the reading takes, are together of bulk at most 1048576: NARROWER than '..Said'. Prove '..Said' where nothing that the law and all that it calls make is longer than what came in: it says more and counts as full. Else prove '..UptoSaid'. A law counts once. -/
mutual
def uptoBulk {H : Type} : DataW H → Nat
  | .lit (.string bytes) => bytes.length + 1
  | .lit _ => 1
  | .nil => 1
  | .ptr d => uptoBulk d + 1
  | .slice elems spare => uptoBulkAll elems + uptoBulkAll spare + 1
  | .agg parts => uptoBulkAll parts + 1
  | .iface _ d => uptoBulk d + 1
  | .map entries => uptoBulkEntries entries + 1
  | .held _ => 1
def uptoBulkAll {H : Type} : List (DataW H) → Nat
  | [] => 0
  | d :: r => uptoBulk d + uptoBulkAll r
def uptoBulkEntries {H : Type} : List (Lit × DataW H) → Nat
  | [] => 0
  | x :: r => uptoBulkEntry x + uptoBulkEntries r
def uptoBulkEntry {H : Type} : Lit × DataW H → Nat
  | (.string bytes, d) => bytes.length + uptoBulk d + 1
  | (_, d) => uptoBulk d + 1
 end
def uptoSmall : (H : Type) → List (DataW H) → Bool := fun _ ds => decide (uptoBulkAll ds ≤ 1048576)
def OpenSpec.upto (s : _root_.Go.ChangeSpec) : _root_.Go.OpenSpec := { _root_.Go.OpenSpec.ofChange s with cond := some uptoSmall }

/-- 'scriptinglaw26.WeakAlive', WHERE WHAT IT READS IS OF BULK AT MOST 1048576: true; the input reads as it did. -/
def weakAliveUptoRow : OpenClaim := { program := "ytjdlkemmcnncaaa", sum := "b25dd6c8ad845090b580b98423d24e420977485a8e1b9b859a6037cd855a7737", func := "scripting/scriptinglaw26.WeakAlive", spec := "weakAlive", recurses := true, apart := false, narrowed := true }
def WeakAliveUptoSaid : Prop := weakAliveUptoRow.holds Try.pinned (OpenSpec.upto weakAliveSpec)

/-- 'scriptinglaw26.WeakClears', WHERE WHAT IT READS IS OF BULK AT MOST 1048576: true; the input reads as it did. -/
def weakClearsUptoRow : OpenClaim := { program := "ytjdlkemmcnncaaa", sum := "b25dd6c8ad845090b580b98423d24e420977485a8e1b9b859a6037cd855a7737", func := "scripting/scriptinglaw26.WeakClears", spec := "weakClears", recurses := true, apart := false, narrowed := true }
def WeakClearsUptoSaid : Prop := weakClearsUptoRow.holds Try.pinned (OpenSpec.upto weakClearsSpec)

/-- 'scriptinglaw26.WeakCollects', WHERE WHAT IT READS IS OF BULK AT MOST 1048576: true; the input reads as it did. -/
def weakCollectsUptoRow : OpenClaim := { program := "ytjdlkemmcnncaaa", sum := "b25dd6c8ad845090b580b98423d24e420977485a8e1b9b859a6037cd855a7737", func := "scripting/scriptinglaw26.WeakCollects", spec := "weakCollects", recurses := true, apart := false, narrowed := true }
def WeakCollectsUptoSaid : Prop := weakCollectsUptoRow.holds Try.pinned (OpenSpec.upto weakCollectsSpec)

/-- 'scriptinglaw26.WeakRounds', WHERE WHAT IT READS IS OF BULK AT MOST 1048576: true; the input reads as it did. -/
def weakRoundsUptoRow : OpenClaim := { program := "ytjdlkemmcnncaaa", sum := "b25dd6c8ad845090b580b98423d24e420977485a8e1b9b859a6037cd855a7737", func := "scripting/scriptinglaw26.WeakRounds", spec := "weakRounds", recurses := true, apart := false, narrowed := true }
def WeakRoundsUptoSaid : Prop := weakRoundsUptoRow.holds Try.pinned (OpenSpec.upto weakRoundsSpec)

/-- 'scriptinglaw26.WeakEntries', WHERE WHAT IT READS IS OF BULK AT MOST 1048576: true; the input reads as it did. -/
def weakEntriesUptoRow : OpenClaim := { program := "ytjdlkemmcnncaaa", sum := "b25dd6c8ad845090b580b98423d24e420977485a8e1b9b859a6037cd855a7737", func := "scripting/scriptinglaw26.WeakEntries", spec := "weakEntries", recurses := true, apart := false, narrowed := true }
def WeakEntriesUptoSaid : Prop := weakEntriesUptoRow.holds Try.pinned (OpenSpec.upto weakEntriesSpec)

/-- 'scriptinglaw26.WeakAgain', WHERE WHAT IT READS IS OF BULK AT MOST 1048576: true; the input reads as it did. -/
def weakAgainUptoRow : OpenClaim := { program := "ytjdlkemmcnncaaa", sum := "b25dd6c8ad845090b580b98423d24e420977485a8e1b9b859a6037cd855a7737", func := "scripting/scriptinglaw26.WeakAgain", spec := "weakAgain", recurses := true, apart := false, narrowed := true }
def WeakAgainUptoSaid : Prop := weakAgainUptoRow.holds Try.pinned (OpenSpec.upto weakAgainSpec)

/-- 'scriptinglaw26.WeakGrows', WHERE WHAT IT READS IS OF BULK AT MOST 1048576: true; the input reads as it did. -/
def weakGrowsUptoRow : OpenClaim := { program := "ytjdlkemmcnncaaa", sum := "b25dd6c8ad845090b580b98423d24e420977485a8e1b9b859a6037cd855a7737", func := "scripting/scriptinglaw26.WeakGrows", spec := "weakGrows", recurses := true, apart := false, narrowed := true }
def WeakGrowsUptoSaid : Prop := weakGrowsUptoRow.holds Try.pinned (OpenSpec.upto weakGrowsSpec)

/-- 'scriptinglaw26.WeakLeast', WHERE WHAT IT READS IS OF BULK AT MOST 1048576: true; the input reads as it did. -/
def weakLeastUptoRow : OpenClaim := { program := "ytjdlkemmcnncaaa", sum := "b25dd6c8ad845090b580b98423d24e420977485a8e1b9b859a6037cd855a7737", func := "scripting/scriptinglaw26.WeakLeast", spec := "weakLeast", unfollowed := true, recurses := true, apart := false, narrowed := true }
def WeakLeastUptoSaid : Prop := weakLeastUptoRow.holds Try.pinned (OpenSpec.upto weakLeastSpec)

end Rows
end Go.Proofs.Ytjdlkemmcnncaaa
