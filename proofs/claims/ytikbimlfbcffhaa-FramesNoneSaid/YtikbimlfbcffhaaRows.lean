/-
  No cell of these rows narrows 'for every input' (looked for: loops, veiled, ifaces, maps, wideKeys, modest, calm, conditions, laid).
  DERIVED. THE GIVEN ROWS OF THIS SEAT. 6 by the template 'for every input the law returns true; each argument reads behind the call as it read before'; 0 by the template 'total and deterministic' (their statements: YtikbimlfbcffhaaTotals.lean).
  GIVEN WITH THE SEED: the statements are not yours to turn. If you find one false, say at which input.
  Laid BY PROGRAM, IN A SANDBOX (cutbox-rows.mjs): the forced cells as the released guide's own fill.sh prints them over the translation 25b237905044161a… (all of the seat's roots in one cut). By AI agents, Wed Nov 11 2026. No macro, syntax, notation, axiom, sorry.
-/
import Derived.Test.YtikbimlfbcffhaaChecked
import GoSem.Claim
import GoSem.ClaimJoined
import GoSem.ClaimMapViews
import Derived.JoinedTies
import Derived.KernelRfl
namespace Go.Proofs.Ytikbimlfbcffhaa
/- THE CELL 'sum', in the pinned program and in every row, IS THE sha256 OF THE DUMP (.gsa) THAT YtikbimlfbcffhaaProg.lean LOADS. Nothing in Lean hashes anything: it is a label: what it is worth is what the hold of that sum in a sandbox is worth. -/
noncomputable def Try.pinned : Pinned := { name := "ytikbimlfbcffhaa", sum := "25b237905044161a99264ded44d2fd2b120c87dac79d7468e92eaa2d5693dbf6", checked := Try.checked }
namespace Rows
def none {H : Type} : Left H := { results := [], args := [] }

/-- 'scriptinglaw43.FramesRuns': WHATEVER THE INPUT: true; the input reads as it did. -/
def framesRunsSpec : ChangeSpec := { name := "framesRuns", fn := fun _ => fun
  | [d] => { results := [.lit (.bool true)], args := [d] }
  | _ => none }
def framesRunsRow : OpenClaim := { program := "ytikbimlfbcffhaa", sum := "25b237905044161a99264ded44d2fd2b120c87dac79d7468e92eaa2d5693dbf6", func := "scripting/scriptinglaw43.FramesRuns", spec := "framesRuns", apart := false }
def FramesRunsSaid : Prop := framesRunsRow.holds Try.pinned (OpenSpec.ofChange framesRunsSpec)

/-- ITS FALSE NEIGHBOUR: 'it returns false'. Refute it at one input. -/
def framesRunsWrong : ChangeSpec := { name := "framesRuns", fn := fun _ => fun
  | [d] => { results := [.lit (.bool false)], args := [d] }
  | _ => none }
def FramesRunsWrongFalsely : Prop := framesRunsRow.holds Try.pinned (OpenSpec.ofChange framesRunsWrong)

/-- 'scriptinglaw43.FramesFits': WHATEVER THE INPUT: true; the input reads as it did. -/
def framesFitsSpec : ChangeSpec := { name := "framesFits", fn := fun _ => fun
  | [d1, d2] => { results := [.lit (.bool true)], args := [d1, d2] }
  | _ => none }
def framesFitsRow : OpenClaim := { program := "ytikbimlfbcffhaa", sum := "25b237905044161a99264ded44d2fd2b120c87dac79d7468e92eaa2d5693dbf6", func := "scripting/scriptinglaw43.FramesFits", spec := "framesFits", apart := false }
def FramesFitsSaid : Prop := framesFitsRow.holds Try.pinned (OpenSpec.ofChange framesFitsSpec)

/-- ITS FALSE NEIGHBOUR: 'it returns false'. Refute it at one input. -/
def framesFitsWrong : ChangeSpec := { name := "framesFits", fn := fun _ => fun
  | [d1, d2] => { results := [.lit (.bool false)], args := [d1, d2] }
  | _ => none }
def FramesFitsWrongFalsely : Prop := framesFitsRow.holds Try.pinned (OpenSpec.ofChange framesFitsWrong)

/-- 'scriptinglaw43.FramesEnters': WHATEVER THE INPUT: true; the input reads as it did. -/
def framesEntersSpec : ChangeSpec := { name := "framesEnters", fn := fun _ => fun
  | [d1, d2, d3] => { results := [.lit (.bool true)], args := [d1, d2, d3] }
  | _ => none }
def framesEntersRow : OpenClaim := { program := "ytikbimlfbcffhaa", sum := "25b237905044161a99264ded44d2fd2b120c87dac79d7468e92eaa2d5693dbf6", func := "scripting/scriptinglaw43.FramesEnters", spec := "framesEnters", apart := false }
def FramesEntersSaid : Prop := framesEntersRow.holds Try.pinned (OpenSpec.ofChange framesEntersSpec)

/-- ITS FALSE NEIGHBOUR: 'it returns false'. Refute it at one input. -/
def framesEntersWrong : ChangeSpec := { name := "framesEnters", fn := fun _ => fun
  | [d1, d2, d3] => { results := [.lit (.bool false)], args := [d1, d2, d3] }
  | _ => none }
def FramesEntersWrongFalsely : Prop := framesEntersRow.holds Try.pinned (OpenSpec.ofChange framesEntersWrong)

/-- 'scriptinglaw43.FramesInverse': WHATEVER THE INPUT: true; the input reads as it did. -/
def framesInverseSpec : ChangeSpec := { name := "framesInverse", fn := fun _ => fun
  | [d1, d2] => { results := [.lit (.bool true)], args := [d1, d2] }
  | _ => none }
def framesInverseRow : OpenClaim := { program := "ytikbimlfbcffhaa", sum := "25b237905044161a99264ded44d2fd2b120c87dac79d7468e92eaa2d5693dbf6", func := "scripting/scriptinglaw43.FramesInverse", spec := "framesInverse", apart := false }
def FramesInverseSaid : Prop := framesInverseRow.holds Try.pinned (OpenSpec.ofChange framesInverseSpec)

/-- ITS FALSE NEIGHBOUR: 'it returns false'. Refute it at one input. -/
def framesInverseWrong : ChangeSpec := { name := "framesInverse", fn := fun _ => fun
  | [d1, d2] => { results := [.lit (.bool false)], args := [d1, d2] }
  | _ => none }
def FramesInverseWrongFalsely : Prop := framesInverseRow.holds Try.pinned (OpenSpec.ofChange framesInverseWrong)

/-- 'scriptinglaw43.FramesArguments': WHATEVER THE INPUT: true; the input reads as it did. -/
def framesArgumentsSpec : ChangeSpec := { name := "framesArguments", fn := fun _ => fun
  | [d1, d2] => { results := [.lit (.bool true)], args := [d1, d2] }
  | _ => none }
def framesArgumentsRow : OpenClaim := { program := "ytikbimlfbcffhaa", sum := "25b237905044161a99264ded44d2fd2b120c87dac79d7468e92eaa2d5693dbf6", func := "scripting/scriptinglaw43.FramesArguments", spec := "framesArguments", apart := false }
def FramesArgumentsSaid : Prop := framesArgumentsRow.holds Try.pinned (OpenSpec.ofChange framesArgumentsSpec)

/-- ITS FALSE NEIGHBOUR: 'it returns false'. Refute it at one input. -/
def framesArgumentsWrong : ChangeSpec := { name := "framesArguments", fn := fun _ => fun
  | [d1, d2] => { results := [.lit (.bool false)], args := [d1, d2] }
  | _ => none }
def FramesArgumentsWrongFalsely : Prop := framesArgumentsRow.holds Try.pinned (OpenSpec.ofChange framesArgumentsWrong)

/-- 'scriptinglaw43.FramesNone': WHATEVER THE INPUT: true; the input reads as it did. -/
def framesNoneSpec : ChangeSpec := { name := "framesNone", fn := fun _ => fun
  | [d] => { results := [.lit (.bool true)], args := [d] }
  | _ => none }
def framesNoneRow : OpenClaim := { program := "ytikbimlfbcffhaa", sum := "25b237905044161a99264ded44d2fd2b120c87dac79d7468e92eaa2d5693dbf6", func := "scripting/scriptinglaw43.FramesNone", spec := "framesNone", apart := false }
def FramesNoneSaid : Prop := framesNoneRow.holds Try.pinned (OpenSpec.ofChange framesNoneSpec)

/-- ITS FALSE NEIGHBOUR: 'it returns false'. Refute it at one input. -/
def framesNoneWrong : ChangeSpec := { name := "framesNone", fn := fun _ => fun
  | [d] => { results := [.lit (.bool false)], args := [d] }
  | _ => none }
def FramesNoneWrongFalsely : Prop := framesNoneRow.holds Try.pinned (OpenSpec.ofChange framesNoneWrong)

/- THE SECOND FORM. 'bulk': how many values and letters a reading holds, each counted each time it is reached (what is shared counts as often as it is met; a slice's spare places count too). A statement '..UptoSaid' is the law's where the arguments, and the package variables that the reading takes, are together of bulk at most 1048576: NARROWER than '..Said'. Prove '..Said' where nothing that the law and all that it calls make is longer than what came in: it says more and counts as full. Else prove '..UptoSaid'. A law counts once. -/
mutual
def uptoBulk {H : Type} : DataW H → Nat
  | .lit (.string bytes) => bytes.length + 1
  | .lit _ => 1
  | .nil => 1
  | .ptr d => uptoBulk d + 1
  | .slice elems spare => uptoBulkAll elems + uptoBulkAll spare + 1
  | .agg parts => uptoBulkAll parts + 1
  | .iface _ d => uptoBulk d + 1
  | .map entries => uptoBulkEntries entries + 1
  | .held _ => 1
def uptoBulkAll {H : Type} : List (DataW H) → Nat
  | [] => 0
  | d :: r => uptoBulk d + uptoBulkAll r
def uptoBulkEntries {H : Type} : List (Lit × DataW H) → Nat
  | [] => 0
  | x :: r => uptoBulkEntry x + uptoBulkEntries r
def uptoBulkEntry {H : Type} : Lit × DataW H → Nat
  | (.string bytes, d) => bytes.length + uptoBulk d + 1
  | (_, d) => uptoBulk d + 1
 end
def uptoSmall : (H : Type) → List (DataW H) → Bool := fun _ ds => decide (uptoBulkAll ds ≤ 1048576)
def OpenSpec.upto (s : _root_.Go.ChangeSpec) : _root_.Go.OpenSpec := { _root_.Go.OpenSpec.ofChange s with cond := some uptoSmall }

/-- 'scriptinglaw43.FramesRuns', WHERE WHAT IT READS IS OF BULK AT MOST 1048576: true; the input reads as it did. -/
def framesRunsUptoRow : OpenClaim := { program := "ytikbimlfbcffhaa", sum := "25b237905044161a99264ded44d2fd2b120c87dac79d7468e92eaa2d5693dbf6", func := "scripting/scriptinglaw43.FramesRuns", spec := "framesRuns", apart := false, narrowed := true }
def FramesRunsUptoSaid : Prop := framesRunsUptoRow.holds Try.pinned (OpenSpec.upto framesRunsSpec)

/-- 'scriptinglaw43.FramesFits', WHERE WHAT IT READS IS OF BULK AT MOST 1048576: true; the input reads as it did. -/
def framesFitsUptoRow : OpenClaim := { program := "ytikbimlfbcffhaa", sum := "25b237905044161a99264ded44d2fd2b120c87dac79d7468e92eaa2d5693dbf6", func := "scripting/scriptinglaw43.FramesFits", spec := "framesFits", apart := false, narrowed := true }
def FramesFitsUptoSaid : Prop := framesFitsUptoRow.holds Try.pinned (OpenSpec.upto framesFitsSpec)

/-- 'scriptinglaw43.FramesEnters', WHERE WHAT IT READS IS OF BULK AT MOST 1048576: true; the input reads as it did. -/
def framesEntersUptoRow : OpenClaim := { program := "ytikbimlfbcffhaa", sum := "25b237905044161a99264ded44d2fd2b120c87dac79d7468e92eaa2d5693dbf6", func := "scripting/scriptinglaw43.FramesEnters", spec := "framesEnters", apart := false, narrowed := true }
def FramesEntersUptoSaid : Prop := framesEntersUptoRow.holds Try.pinned (OpenSpec.upto framesEntersSpec)

/-- 'scriptinglaw43.FramesInverse', WHERE WHAT IT READS IS OF BULK AT MOST 1048576: true; the input reads as it did. -/
def framesInverseUptoRow : OpenClaim := { program := "ytikbimlfbcffhaa", sum := "25b237905044161a99264ded44d2fd2b120c87dac79d7468e92eaa2d5693dbf6", func := "scripting/scriptinglaw43.FramesInverse", spec := "framesInverse", apart := false, narrowed := true }
def FramesInverseUptoSaid : Prop := framesInverseUptoRow.holds Try.pinned (OpenSpec.upto framesInverseSpec)

/-- 'scriptinglaw43.FramesArguments', WHERE WHAT IT READS IS OF BULK AT MOST 1048576: true; the input reads as it did. -/
def framesArgumentsUptoRow : OpenClaim := { program := "ytikbimlfbcffhaa", sum := "25b237905044161a99264ded44d2fd2b120c87dac79d7468e92eaa2d5693dbf6", func := "scripting/scriptinglaw43.FramesArguments", spec := "framesArguments", apart := false, narrowed := true }
def FramesArgumentsUptoSaid : Prop := framesArgumentsUptoRow.holds Try.pinned (OpenSpec.upto framesArgumentsSpec)

/-- 'scriptinglaw43.FramesNone', WHERE WHAT IT READS IS OF BULK AT MOST 1048576: true; the input reads as it did. -/
def framesNoneUptoRow : OpenClaim := { program := "ytikbimlfbcffhaa", sum := "25b237905044161a99264ded44d2fd2b120c87dac79d7468e92eaa2d5693dbf6", func := "scripting/scriptinglaw43.FramesNone", spec := "framesNone", apart := false, narrowed := true }
def FramesNoneUptoSaid : Prop := framesNoneUptoRow.holds Try.pinned (OpenSpec.upto framesNoneSpec)

end Rows
end Go.Proofs.Ytikbimlfbcffhaa
