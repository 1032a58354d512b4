/-
  No cell of these rows narrows 'for every input' (looked for: loops, veiled, ifaces, maps, wideKeys, modest, calm, conditions, laid).
  DERIVED. THE GIVEN ROWS OF THIS SEAT. 7 by the template 'for every input the law returns true; each argument reads behind the call as it read before'; 0 by the template 'total and deterministic' (their statements: YtplkkhpokodbmaaTotals.lean).
  GIVEN WITH THE SEED: the statements are not yours to turn. If you find one false, say at which input.
  Laid BY PROGRAM, IN A SANDBOX (cutbox-rows.mjs): the forced cells as the released guide's own fill.sh prints them over the translation 0810c6ee428294b3… (all of the seat's roots in one cut). By AI agents, Wed Nov 11 2026. No macro, syntax, notation, axiom, sorry.
-/
import Derived.Test.YtplkkhpokodbmaaChecked
import GoSem.Claim
import GoSem.ClaimJoined
import GoSem.ClaimMapViews
import Derived.JoinedTies
import Derived.KernelRfl
namespace Go.Proofs.Ytplkkhpokodbmaa
/- THE CELL 'sum', in the pinned program and in every row, IS THE sha256 OF THE DUMP (.gsa) THAT YtplkkhpokodbmaaProg.lean LOADS. Nothing in Lean hashes anything: it is a label: what it is worth is what the hold of that sum in a sandbox is worth. -/
noncomputable def Try.pinned : Pinned := { name := "ytplkkhpokodbmaa", sum := "0810c6ee428294b39bbd900ff144f582ff60b98306d4c2cfd1c8b90159c6e84a", checked := Try.checked }
namespace Rows
def none {H : Type} : Left H := { results := [], args := [] }

/-- 'scriptinglaw15.MetaHandler': WHATEVER THE INPUT: true; the input reads as it did. -/
def metaHandlerSpec : ChangeSpec := { name := "metaHandler", fn := fun _ => fun
  | [d1, d2, d3] => { results := [.lit (.bool true)], args := [d1, d2, d3] }
  | _ => none }
def metaHandlerRow : OpenClaim := { program := "ytplkkhpokodbmaa", sum := "0810c6ee428294b39bbd900ff144f582ff60b98306d4c2cfd1c8b90159c6e84a", func := "scripting/scriptinglaw15.MetaHandler", spec := "metaHandler", plainKeys := false, apart := false }
def MetaHandlerSaid : Prop := metaHandlerRow.holds Try.pinned (OpenSpec.ofChange metaHandlerSpec)

/-- ITS FALSE NEIGHBOUR: 'it returns false'. Refute it at one input. -/
def metaHandlerWrong : ChangeSpec := { name := "metaHandler", fn := fun _ => fun
  | [d1, d2, d3] => { results := [.lit (.bool false)], args := [d1, d2, d3] }
  | _ => none }
def MetaHandlerWrongFalsely : Prop := metaHandlerRow.holds Try.pinned (OpenSpec.ofChange metaHandlerWrong)

/-- 'scriptinglaw15.MetaCallee': WHATEVER THE INPUT: true; the input reads as it did. -/
def metaCalleeSpec : ChangeSpec := { name := "metaCallee", fn := fun _ => fun
  | [d1, d2, d3] => { results := [.lit (.bool true)], args := [d1, d2, d3] }
  | _ => none }
def metaCalleeRow : OpenClaim := { program := "ytplkkhpokodbmaa", sum := "0810c6ee428294b39bbd900ff144f582ff60b98306d4c2cfd1c8b90159c6e84a", func := "scripting/scriptinglaw15.MetaCallee", spec := "metaCallee", plainKeys := false, apart := false }
def MetaCalleeSaid : Prop := metaCalleeRow.holds Try.pinned (OpenSpec.ofChange metaCalleeSpec)

/-- ITS FALSE NEIGHBOUR: 'it returns false'. Refute it at one input. -/
def metaCalleeWrong : ChangeSpec := { name := "metaCallee", fn := fun _ => fun
  | [d1, d2, d3] => { results := [.lit (.bool false)], args := [d1, d2, d3] }
  | _ => none }
def MetaCalleeWrongFalsely : Prop := metaCalleeRow.holds Try.pinned (OpenSpec.ofChange metaCalleeWrong)

/-- 'scriptinglaw15.MetaIndex': WHATEVER THE INPUT: true; the input reads as it did. -/
def metaIndexSpec : ChangeSpec := { name := "metaIndex", fn := fun _ => fun
  | [d1, d2, d3] => { results := [.lit (.bool true)], args := [d1, d2, d3] }
  | _ => none }
def metaIndexRow : OpenClaim := { program := "ytplkkhpokodbmaa", sum := "0810c6ee428294b39bbd900ff144f582ff60b98306d4c2cfd1c8b90159c6e84a", func := "scripting/scriptinglaw15.MetaIndex", spec := "metaIndex", unfollowed := true, recurses := true, plainKeys := false, apart := false }
def MetaIndexSaid : Prop := metaIndexRow.holds Try.pinned (OpenSpec.ofChange metaIndexSpec)

/-- ITS FALSE NEIGHBOUR: 'it returns false'. Refute it at one input. -/
def metaIndexWrong : ChangeSpec := { name := "metaIndex", fn := fun _ => fun
  | [d1, d2, d3] => { results := [.lit (.bool false)], args := [d1, d2, d3] }
  | _ => none }
def MetaIndexWrongFalsely : Prop := metaIndexRow.holds Try.pinned (OpenSpec.ofChange metaIndexWrong)

/-- 'scriptinglaw15.MetaAssign': WHATEVER THE INPUT: true; the input reads as it did. -/
def metaAssignSpec : ChangeSpec := { name := "metaAssign", fn := fun _ => fun
  | [d1, d2, d3, d4] => { results := [.lit (.bool true)], args := [d1, d2, d3, d4] }
  | _ => none }
def metaAssignRow : OpenClaim := { program := "ytplkkhpokodbmaa", sum := "0810c6ee428294b39bbd900ff144f582ff60b98306d4c2cfd1c8b90159c6e84a", func := "scripting/scriptinglaw15.MetaAssign", spec := "metaAssign", unfollowed := true, recurses := true, plainKeys := false, apart := false }
def MetaAssignSaid : Prop := metaAssignRow.holds Try.pinned (OpenSpec.ofChange metaAssignSpec)

/-- ITS FALSE NEIGHBOUR: 'it returns false'. Refute it at one input. -/
def metaAssignWrong : ChangeSpec := { name := "metaAssign", fn := fun _ => fun
  | [d1, d2, d3, d4] => { results := [.lit (.bool false)], args := [d1, d2, d3, d4] }
  | _ => none }
def MetaAssignWrongFalsely : Prop := metaAssignRow.holds Try.pinned (OpenSpec.ofChange metaAssignWrong)

/-- 'scriptinglaw15.MetaChain': WHATEVER THE INPUT: true; the input reads as it did. -/
def metaChainSpec : ChangeSpec := { name := "metaChain", fn := fun _ => fun
  | [d1, d2] => { results := [.lit (.bool true)], args := [d1, d2] }
  | _ => none }
def metaChainRow : OpenClaim := { program := "ytplkkhpokodbmaa", sum := "0810c6ee428294b39bbd900ff144f582ff60b98306d4c2cfd1c8b90159c6e84a", func := "scripting/scriptinglaw15.MetaChain", spec := "metaChain", unfollowed := true, recurses := true, plainKeys := false, apart := false }
def MetaChainSaid : Prop := metaChainRow.holds Try.pinned (OpenSpec.ofChange metaChainSpec)

/-- ITS FALSE NEIGHBOUR: 'it returns false'. Refute it at one input. -/
def metaChainWrong : ChangeSpec := { name := "metaChain", fn := fun _ => fun
  | [d1, d2] => { results := [.lit (.bool false)], args := [d1, d2] }
  | _ => none }
def MetaChainWrongFalsely : Prop := metaChainRow.holds Try.pinned (OpenSpec.ofChange metaChainWrong)

/-- 'scriptinglaw15.MetaPlain': WHATEVER THE INPUT: true; the input reads as it did. -/
def metaPlainSpec : ChangeSpec := { name := "metaPlain", fn := fun _ => fun
  | [d1, d2, d3] => { results := [.lit (.bool true)], args := [d1, d2, d3] }
  | _ => none }
def metaPlainRow : OpenClaim := { program := "ytplkkhpokodbmaa", sum := "0810c6ee428294b39bbd900ff144f582ff60b98306d4c2cfd1c8b90159c6e84a", func := "scripting/scriptinglaw15.MetaPlain", spec := "metaPlain", unfollowed := true, recurses := true, plainKeys := false, apart := false }
def MetaPlainSaid : Prop := metaPlainRow.holds Try.pinned (OpenSpec.ofChange metaPlainSpec)

/-- ITS FALSE NEIGHBOUR: 'it returns false'. Refute it at one input. -/
def metaPlainWrong : ChangeSpec := { name := "metaPlain", fn := fun _ => fun
  | [d1, d2, d3] => { results := [.lit (.bool false)], args := [d1, d2, d3] }
  | _ => none }
def MetaPlainWrongFalsely : Prop := metaPlainRow.holds Try.pinned (OpenSpec.ofChange metaPlainWrong)

/-- 'scriptinglaw15.MetaModes': WHATEVER THE INPUT: true; the input reads as it did. -/
def metaModesSpec : ChangeSpec := { name := "metaModes", fn := fun _ => fun
  | [d1, d2] => { results := [.lit (.bool true)], args := [d1, d2] }
  | _ => none }
def metaModesRow : OpenClaim := { program := "ytplkkhpokodbmaa", sum := "0810c6ee428294b39bbd900ff144f582ff60b98306d4c2cfd1c8b90159c6e84a", func := "scripting/scriptinglaw15.MetaModes", spec := "metaModes", inPlace := ["internal/bytealg.IndexByteString", "internal/bytealg.IndexString"], named := ["internal/bytealg.MaxLen"], plainKeys := false, apart := false }
def MetaModesSaid : Prop := metaModesRow.holds Try.pinned (OpenSpec.ofChange metaModesSpec)

/-- ITS FALSE NEIGHBOUR: 'it returns false'. Refute it at one input. -/
def metaModesWrong : ChangeSpec := { name := "metaModes", fn := fun _ => fun
  | [d1, d2] => { results := [.lit (.bool false)], args := [d1, d2] }
  | _ => none }
def MetaModesWrongFalsely : Prop := metaModesRow.holds Try.pinned (OpenSpec.ofChange metaModesWrong)

/- THE SECOND FORM. 'bulk': how many values and letters a reading holds, each counted each time it is reached (what is shared counts as often as it is met; a slice's spare places count too). A statement '..UptoSaid' is the law's where the arguments, and the package variables that the reading takes, are together of bulk at most 1048576: NARROWER than '..Said'. Prove '..Said' where nothing that the law and all that it calls make is longer than what came in: it says more and counts as full. Else prove '..UptoSaid'. A law counts once. -/
mutual
def uptoBulk {H : Type} : DataW H → Nat
  | .lit (.string bytes) => bytes.length + 1
  | .lit _ => 1
  | .nil => 1
  | .ptr d => uptoBulk d + 1
  | .slice elems spare => uptoBulkAll elems + uptoBulkAll spare + 1
  | .agg parts => uptoBulkAll parts + 1
  | .iface _ d => uptoBulk d + 1
  | .map entries => uptoBulkEntries entries + 1
  | .held _ => 1
def uptoBulkAll {H : Type} : List (DataW H) → Nat
  | [] => 0
  | d :: r => uptoBulk d + uptoBulkAll r
def uptoBulkEntries {H : Type} : List (Lit × DataW H) → Nat
  | [] => 0
  | x :: r => uptoBulkEntry x + uptoBulkEntries r
def uptoBulkEntry {H : Type} : Lit × DataW H → Nat
  | (.string bytes, d) => bytes.length + uptoBulk d + 1
  | (_, d) => uptoBulk d + 1
 end
def uptoSmall : (H : Type) → List (DataW H) → Bool := fun _ ds => decide (uptoBulkAll ds ≤ 1048576)
def OpenSpec.upto (s : _root_.Go.ChangeSpec) : _root_.Go.OpenSpec := { _root_.Go.OpenSpec.ofChange s with cond := some uptoSmall }

/-- 'scriptinglaw15.MetaHandler', WHERE WHAT IT READS IS OF BULK AT MOST 1048576: true; the input reads as it did. -/
def metaHandlerUptoRow : OpenClaim := { program := "ytplkkhpokodbmaa", sum := "0810c6ee428294b39bbd900ff144f582ff60b98306d4c2cfd1c8b90159c6e84a", func := "scripting/scriptinglaw15.MetaHandler", spec := "metaHandler", plainKeys := false, apart := false, narrowed := true }
def MetaHandlerUptoSaid : Prop := metaHandlerUptoRow.holds Try.pinned (OpenSpec.upto metaHandlerSpec)

/-- 'scriptinglaw15.MetaCallee', WHERE WHAT IT READS IS OF BULK AT MOST 1048576: true; the input reads as it did. -/
def metaCalleeUptoRow : OpenClaim := { program := "ytplkkhpokodbmaa", sum := "0810c6ee428294b39bbd900ff144f582ff60b98306d4c2cfd1c8b90159c6e84a", func := "scripting/scriptinglaw15.MetaCallee", spec := "metaCallee", plainKeys := false, apart := false, narrowed := true }
def MetaCalleeUptoSaid : Prop := metaCalleeUptoRow.holds Try.pinned (OpenSpec.upto metaCalleeSpec)

/-- 'scriptinglaw15.MetaIndex', WHERE WHAT IT READS IS OF BULK AT MOST 1048576: true; the input reads as it did. -/
def metaIndexUptoRow : OpenClaim := { program := "ytplkkhpokodbmaa", sum := "0810c6ee428294b39bbd900ff144f582ff60b98306d4c2cfd1c8b90159c6e84a", func := "scripting/scriptinglaw15.MetaIndex", spec := "metaIndex", unfollowed := true, recurses := true, plainKeys := false, apart := false, narrowed := true }
def MetaIndexUptoSaid : Prop := metaIndexUptoRow.holds Try.pinned (OpenSpec.upto metaIndexSpec)

/-- 'scriptinglaw15.MetaAssign', WHERE WHAT IT READS IS OF BULK AT MOST 1048576: true; the input reads as it did. -/
def metaAssignUptoRow : OpenClaim := { program := "ytplkkhpokodbmaa", sum := "0810c6ee428294b39bbd900ff144f582ff60b98306d4c2cfd1c8b90159c6e84a", func := "scripting/scriptinglaw15.MetaAssign", spec := "metaAssign", unfollowed := true, recurses := true, plainKeys := false, apart := false, narrowed := true }
def MetaAssignUptoSaid : Prop := metaAssignUptoRow.holds Try.pinned (OpenSpec.upto metaAssignSpec)

/-- 'scriptinglaw15.MetaChain', WHERE WHAT IT READS IS OF BULK AT MOST 1048576: true; the input reads as it did. -/
def metaChainUptoRow : OpenClaim := { program := "ytplkkhpokodbmaa", sum := "0810c6ee428294b39bbd900ff144f582ff60b98306d4c2cfd1c8b90159c6e84a", func := "scripting/scriptinglaw15.MetaChain", spec := "metaChain", unfollowed := true, recurses := true, plainKeys := false, apart := false, narrowed := true }
def MetaChainUptoSaid : Prop := metaChainUptoRow.holds Try.pinned (OpenSpec.upto metaChainSpec)

/-- 'scriptinglaw15.MetaPlain', WHERE WHAT IT READS IS OF BULK AT MOST 1048576: true; the input reads as it did. -/
def metaPlainUptoRow : OpenClaim := { program := "ytplkkhpokodbmaa", sum := "0810c6ee428294b39bbd900ff144f582ff60b98306d4c2cfd1c8b90159c6e84a", func := "scripting/scriptinglaw15.MetaPlain", spec := "metaPlain", unfollowed := true, recurses := true, plainKeys := false, apart := false, narrowed := true }
def MetaPlainUptoSaid : Prop := metaPlainUptoRow.holds Try.pinned (OpenSpec.upto metaPlainSpec)

/-- 'scriptinglaw15.MetaModes', WHERE WHAT IT READS IS OF BULK AT MOST 1048576: true; the input reads as it did. -/
def metaModesUptoRow : OpenClaim := { program := "ytplkkhpokodbmaa", sum := "0810c6ee428294b39bbd900ff144f582ff60b98306d4c2cfd1c8b90159c6e84a", func := "scripting/scriptinglaw15.MetaModes", spec := "metaModes", inPlace := ["internal/bytealg.IndexByteString", "internal/bytealg.IndexString"], named := ["internal/bytealg.MaxLen"], plainKeys := false, apart := false, narrowed := true }
def MetaModesUptoSaid : Prop := metaModesUptoRow.holds Try.pinned (OpenSpec.upto metaModesSpec)

end Rows
end Go.Proofs.Ytplkkhpokodbmaa
