/-
  No cell of these rows narrows 'for every input' (looked for: loops, veiled, ifaces, maps, wideKeys, modest, calm, conditions, laid).
  DERIVED. THE GIVEN ROWS OF THIS SEAT. 7 by the template 'for every input the law returns true; each argument reads behind the call as it read before'; 0 by the template 'total and deterministic' (their statements: YtipmkaabogocfaaTotals.lean).
  GIVEN WITH THE SEED: the statements are not yours to turn. If you find one false, say at which input.
  Laid BY PROGRAM, IN A SANDBOX (cutbox-rows.mjs): the forced cells as the released guide's own fill.sh prints them over the translation c85ef8a6ff32819f… (all of the seat's roots in one cut). By AI agents, Wed Nov 11 2026. No macro, syntax, notation, axiom, sorry.
-/
import Derived.Test.YtipmkaabogocfaaChecked
import GoSem.Claim
import GoSem.ClaimJoined
import GoSem.ClaimMapViews
import Derived.JoinedTies
import Derived.KernelRfl
namespace Go.Proofs.Ytipmkaabogocfaa
/- THE CELL 'sum', in the pinned program and in every row, IS THE sha256 OF THE DUMP (.gsa) THAT YtipmkaabogocfaaProg.lean LOADS. Nothing in Lean hashes anything: it is a label: what it is worth is what the hold of that sum in a sandbox is worth. -/
noncomputable def Try.pinned : Pinned := { name := "ytipmkaabogocfaa", sum := "c85ef8a6ff32819f342bdea2938d3ac850a9d06d8468ff05a0709403d7e346ae", checked := Try.checked }
namespace Rows
def none {H : Type} : Left H := { results := [], args := [] }

/-- 'scriptinglaw27.FinalizerOrder': WHATEVER THE INPUT: true; the input reads as it did. -/
def finalizerOrderSpec : ChangeSpec := { name := "finalizerOrder", fn := fun _ => fun
  | [d1, d2] => { results := [.lit (.bool true)], args := [d1, d2] }
  | _ => none }
def finalizerOrderRow : OpenClaim := { program := "ytipmkaabogocfaa", sum := "c85ef8a6ff32819f342bdea2938d3ac850a9d06d8468ff05a0709403d7e346ae", func := "scripting/scriptinglaw27.FinalizerOrder", spec := "finalizerOrder", recurses := true, plainKeys := false, apart := false }
def FinalizerOrderSaid : Prop := finalizerOrderRow.holds Try.pinned (OpenSpec.ofChange finalizerOrderSpec)

/-- ITS FALSE NEIGHBOUR: 'it returns false'. Refute it at one input. -/
def finalizerOrderWrong : ChangeSpec := { name := "finalizerOrder", fn := fun _ => fun
  | [d1, d2] => { results := [.lit (.bool false)], args := [d1, d2] }
  | _ => none }
def FinalizerOrderWrongFalsely : Prop := finalizerOrderRow.holds Try.pinned (OpenSpec.ofChange finalizerOrderWrong)

/-- 'scriptinglaw27.FinalizerCalls': WHATEVER THE INPUT: true; the input reads as it did. -/
def finalizerCallsSpec : ChangeSpec := { name := "finalizerCalls", fn := fun _ => fun
  | [d] => { results := [.lit (.bool true)], args := [d] }
  | _ => none }
def finalizerCallsRow : OpenClaim := { program := "ytipmkaabogocfaa", sum := "c85ef8a6ff32819f342bdea2938d3ac850a9d06d8468ff05a0709403d7e346ae", func := "scripting/scriptinglaw27.FinalizerCalls", spec := "finalizerCalls", recurses := true, plainKeys := false, apart := false }
def FinalizerCallsSaid : Prop := finalizerCallsRow.holds Try.pinned (OpenSpec.ofChange finalizerCallsSpec)

/-- ITS FALSE NEIGHBOUR: 'it returns false'. Refute it at one input. -/
def finalizerCallsWrong : ChangeSpec := { name := "finalizerCalls", fn := fun _ => fun
  | [d] => { results := [.lit (.bool false)], args := [d] }
  | _ => none }
def FinalizerCallsWrongFalsely : Prop := finalizerCallsRow.holds Try.pinned (OpenSpec.ofChange finalizerCallsWrong)

/-- 'scriptinglaw27.FinalizerCycles': WHATEVER THE INPUT: true; the input reads as it did. -/
def finalizerCyclesSpec : ChangeSpec := { name := "finalizerCycles", fn := fun _ => fun
  | [d1, d2, d3] => { results := [.lit (.bool true)], args := [d1, d2, d3] }
  | _ => none }
def finalizerCyclesRow : OpenClaim := { program := "ytipmkaabogocfaa", sum := "c85ef8a6ff32819f342bdea2938d3ac850a9d06d8468ff05a0709403d7e346ae", func := "scripting/scriptinglaw27.FinalizerCycles", spec := "finalizerCycles", recurses := true, plainKeys := false, apart := false }
def FinalizerCyclesSaid : Prop := finalizerCyclesRow.holds Try.pinned (OpenSpec.ofChange finalizerCyclesSpec)

/-- ITS FALSE NEIGHBOUR: 'it returns false'. Refute it at one input. -/
def finalizerCyclesWrong : ChangeSpec := { name := "finalizerCycles", fn := fun _ => fun
  | [d1, d2, d3] => { results := [.lit (.bool false)], args := [d1, d2, d3] }
  | _ => none }
def FinalizerCyclesWrongFalsely : Prop := finalizerCyclesRow.holds Try.pinned (OpenSpec.ofChange finalizerCyclesWrong)

/-- 'scriptinglaw27.FinalizerOnce': WHATEVER THE INPUT: true; the input reads as it did. -/
def finalizerOnceSpec : ChangeSpec := { name := "finalizerOnce", fn := fun _ => fun
  | [d] => { results := [.lit (.bool true)], args := [d] }
  | _ => none }
def finalizerOnceRow : OpenClaim := { program := "ytipmkaabogocfaa", sum := "c85ef8a6ff32819f342bdea2938d3ac850a9d06d8468ff05a0709403d7e346ae", func := "scripting/scriptinglaw27.FinalizerOnce", spec := "finalizerOnce", recurses := true, plainKeys := false, apart := false }
def FinalizerOnceSaid : Prop := finalizerOnceRow.holds Try.pinned (OpenSpec.ofChange finalizerOnceSpec)

/-- ITS FALSE NEIGHBOUR: 'it returns false'. Refute it at one input. -/
def finalizerOnceWrong : ChangeSpec := { name := "finalizerOnce", fn := fun _ => fun
  | [d] => { results := [.lit (.bool false)], args := [d] }
  | _ => none }
def FinalizerOnceWrongFalsely : Prop := finalizerOnceRow.holds Try.pinned (OpenSpec.ofChange finalizerOnceWrong)

/-- 'scriptinglaw27.FinalizerRevives': WHATEVER THE INPUT: true; the input reads as it did. -/
def finalizerRevivesSpec : ChangeSpec := { name := "finalizerRevives", fn := fun _ => fun
  | [d1, d2, d3] => { results := [.lit (.bool true)], args := [d1, d2, d3] }
  | _ => none }
def finalizerRevivesRow : OpenClaim := { program := "ytipmkaabogocfaa", sum := "c85ef8a6ff32819f342bdea2938d3ac850a9d06d8468ff05a0709403d7e346ae", func := "scripting/scriptinglaw27.FinalizerRevives", spec := "finalizerRevives", recurses := true, plainKeys := false, apart := false }
def FinalizerRevivesSaid : Prop := finalizerRevivesRow.holds Try.pinned (OpenSpec.ofChange finalizerRevivesSpec)

/-- ITS FALSE NEIGHBOUR: 'it returns false'. Refute it at one input. -/
def finalizerRevivesWrong : ChangeSpec := { name := "finalizerRevives", fn := fun _ => fun
  | [d1, d2, d3] => { results := [.lit (.bool false)], args := [d1, d2, d3] }
  | _ => none }
def FinalizerRevivesWrongFalsely : Prop := finalizerRevivesRow.holds Try.pinned (OpenSpec.ofChange finalizerRevivesWrong)

/-- 'scriptinglaw27.FinalizerNone': WHATEVER THE INPUT: true; the input reads as it did. -/
def finalizerNoneSpec : ChangeSpec := { name := "finalizerNone", fn := fun _ => fun
  | [d] => { results := [.lit (.bool true)], args := [d] }
  | _ => none }
def finalizerNoneRow : OpenClaim := { program := "ytipmkaabogocfaa", sum := "c85ef8a6ff32819f342bdea2938d3ac850a9d06d8468ff05a0709403d7e346ae", func := "scripting/scriptinglaw27.FinalizerNone", spec := "finalizerNone", recurses := true, plainKeys := false, apart := false }
def FinalizerNoneSaid : Prop := finalizerNoneRow.holds Try.pinned (OpenSpec.ofChange finalizerNoneSpec)

/-- ITS FALSE NEIGHBOUR: 'it returns false'. Refute it at one input. -/
def finalizerNoneWrong : ChangeSpec := { name := "finalizerNone", fn := fun _ => fun
  | [d] => { results := [.lit (.bool false)], args := [d] }
  | _ => none }
def FinalizerNoneWrongFalsely : Prop := finalizerNoneRow.holds Try.pinned (OpenSpec.ofChange finalizerNoneWrong)

/-- 'scriptinglaw27.FinalizerRepeats': WHATEVER THE INPUT: true; the input reads as it did. -/
def finalizerRepeatsSpec : ChangeSpec := { name := "finalizerRepeats", fn := fun _ => fun
  | [d1, d2, d3] => { results := [.lit (.bool true)], args := [d1, d2, d3] }
  | _ => none }
def finalizerRepeatsRow : OpenClaim := { program := "ytipmkaabogocfaa", sum := "c85ef8a6ff32819f342bdea2938d3ac850a9d06d8468ff05a0709403d7e346ae", func := "scripting/scriptinglaw27.FinalizerRepeats", spec := "finalizerRepeats", recurses := true, plainKeys := false, apart := false }
def FinalizerRepeatsSaid : Prop := finalizerRepeatsRow.holds Try.pinned (OpenSpec.ofChange finalizerRepeatsSpec)

/-- ITS FALSE NEIGHBOUR: 'it returns false'. Refute it at one input. -/
def finalizerRepeatsWrong : ChangeSpec := { name := "finalizerRepeats", fn := fun _ => fun
  | [d1, d2, d3] => { results := [.lit (.bool false)], args := [d1, d2, d3] }
  | _ => none }
def FinalizerRepeatsWrongFalsely : Prop := finalizerRepeatsRow.holds Try.pinned (OpenSpec.ofChange finalizerRepeatsWrong)

/- THE SECOND FORM. 'bulk': how many values and letters a reading holds, each counted each time it is reached (what is shared counts as often as it is met; a slice's spare places count too). A statement '..UptoSaid' is the law's where the arguments, and the package variables that the reading takes, are together of bulk at most 1048576: NARROWER than '..Said'. Prove '..Said' where nothing that the law and all that it calls make is longer than what came in: it says more and counts as full. Else prove '..UptoSaid'. A law counts once. -/
mutual
def uptoBulk {H : Type} : DataW H → Nat
  | .lit (.string bytes) => bytes.length + 1
  | .lit _ => 1
  | .nil => 1
  | .ptr d => uptoBulk d + 1
  | .slice elems spare => uptoBulkAll elems + uptoBulkAll spare + 1
  | .agg parts => uptoBulkAll parts + 1
  | .iface _ d => uptoBulk d + 1
  | .map entries => uptoBulkEntries entries + 1
  | .held _ => 1
def uptoBulkAll {H : Type} : List (DataW H) → Nat
  | [] => 0
  | d :: r => uptoBulk d + uptoBulkAll r
def uptoBulkEntries {H : Type} : List (Lit × DataW H) → Nat
  | [] => 0
  | x :: r => uptoBulkEntry x + uptoBulkEntries r
def uptoBulkEntry {H : Type} : Lit × DataW H → Nat
  | (.string bytes, d) => bytes.length + uptoBulk d + 1
  | (_, d) => uptoBulk d + 1
 end
def uptoSmall : (H : Type) → List (DataW H) → Bool := fun _ ds => decide (uptoBulkAll ds ≤ 1048576)
def OpenSpec.upto (s : _root_.Go.ChangeSpec) : _root_.Go.OpenSpec := { _root_.Go.OpenSpec.ofChange s with cond := some uptoSmall }

/-- 'scriptinglaw27.FinalizerOrder', WHERE WHAT IT READS IS OF BULK AT MOST 1048576: true; the input reads as it did. -/
def finalizerOrderUptoRow : OpenClaim := { program := "ytipmkaabogocfaa", sum := "c85ef8a6ff32819f342bdea2938d3ac850a9d06d8468ff05a0709403d7e346ae", func := "scripting/scriptinglaw27.FinalizerOrder", spec := "finalizerOrder", recurses := true, plainKeys := false, apart := false, narrowed := true }
def FinalizerOrderUptoSaid : Prop := finalizerOrderUptoRow.holds Try.pinned (OpenSpec.upto finalizerOrderSpec)

/-- 'scriptinglaw27.FinalizerCalls', WHERE WHAT IT READS IS OF BULK AT MOST 1048576: true; the input reads as it did. -/
def finalizerCallsUptoRow : OpenClaim := { program := "ytipmkaabogocfaa", sum := "c85ef8a6ff32819f342bdea2938d3ac850a9d06d8468ff05a0709403d7e346ae", func := "scripting/scriptinglaw27.FinalizerCalls", spec := "finalizerCalls", recurses := true, plainKeys := false, apart := false, narrowed := true }
def FinalizerCallsUptoSaid : Prop := finalizerCallsUptoRow.holds Try.pinned (OpenSpec.upto finalizerCallsSpec)

/-- 'scriptinglaw27.FinalizerCycles', WHERE WHAT IT READS IS OF BULK AT MOST 1048576: true; the input reads as it did. -/
def finalizerCyclesUptoRow : OpenClaim := { program := "ytipmkaabogocfaa", sum := "c85ef8a6ff32819f342bdea2938d3ac850a9d06d8468ff05a0709403d7e346ae", func := "scripting/scriptinglaw27.FinalizerCycles", spec := "finalizerCycles", recurses := true, plainKeys := false, apart := false, narrowed := true }
def FinalizerCyclesUptoSaid : Prop := finalizerCyclesUptoRow.holds Try.pinned (OpenSpec.upto finalizerCyclesSpec)

/-- 'scriptinglaw27.FinalizerOnce', WHERE WHAT IT READS IS OF BULK AT MOST 1048576: true; the input reads as it did. -/
def finalizerOnceUptoRow : OpenClaim := { program := "ytipmkaabogocfaa", sum := "c85ef8a6ff32819f342bdea2938d3ac850a9d06d8468ff05a0709403d7e346ae", func := "scripting/scriptinglaw27.FinalizerOnce", spec := "finalizerOnce", recurses := true, plainKeys := false, apart := false, narrowed := true }
def FinalizerOnceUptoSaid : Prop := finalizerOnceUptoRow.holds Try.pinned (OpenSpec.upto finalizerOnceSpec)

/-- 'scriptinglaw27.FinalizerRevives', WHERE WHAT IT READS IS OF BULK AT MOST 1048576: true; the input reads as it did. -/
def finalizerRevivesUptoRow : OpenClaim := { program := "ytipmkaabogocfaa", sum := "c85ef8a6ff32819f342bdea2938d3ac850a9d06d8468ff05a0709403d7e346ae", func := "scripting/scriptinglaw27.FinalizerRevives", spec := "finalizerRevives", recurses := true, plainKeys := false, apart := false, narrowed := true }
def FinalizerRevivesUptoSaid : Prop := finalizerRevivesUptoRow.holds Try.pinned (OpenSpec.upto finalizerRevivesSpec)

/-- 'scriptinglaw27.FinalizerNone', WHERE WHAT IT READS IS OF BULK AT MOST 1048576: true; the input reads as it did. -/
def finalizerNoneUptoRow : OpenClaim := { program := "ytipmkaabogocfaa", sum := "c85ef8a6ff32819f342bdea2938d3ac850a9d06d8468ff05a0709403d7e346ae", func := "scripting/scriptinglaw27.FinalizerNone", spec := "finalizerNone", recurses := true, plainKeys := false, apart := false, narrowed := true }
def FinalizerNoneUptoSaid : Prop := finalizerNoneUptoRow.holds Try.pinned (OpenSpec.upto finalizerNoneSpec)

/-- 'scriptinglaw27.FinalizerRepeats', WHERE WHAT IT READS IS OF BULK AT MOST 1048576: true; the input reads as it did. -/
def finalizerRepeatsUptoRow : OpenClaim := { program := "ytipmkaabogocfaa", sum := "c85ef8a6ff32819f342bdea2938d3ac850a9d06d8468ff05a0709403d7e346ae", func := "scripting/scriptinglaw27.FinalizerRepeats", spec := "finalizerRepeats", recurses := true, plainKeys := false, apart := false, narrowed := true }
def FinalizerRepeatsUptoSaid : Prop := finalizerRepeatsUptoRow.holds Try.pinned (OpenSpec.upto finalizerRepeatsSpec)

end Rows
end Go.Proofs.Ytipmkaabogocfaa
