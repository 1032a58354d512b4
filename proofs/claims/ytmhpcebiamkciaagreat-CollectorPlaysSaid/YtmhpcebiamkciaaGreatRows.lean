/-
  No cell of these rows narrows 'for every input' (looked for: loops, veiled, ifaces, maps, wideKeys, modest, calm, conditions, laid).
  DERIVED. THE GIVEN ROWS OF THIS SEAT. 5 by the template 'for every input the law returns true; each argument reads behind the call as it read before'; 0 by the template 'total and deterministic' (their statements: YtmhpcebiamkciaaGreatTotals.lean).
  GIVEN WITH THE SEED: the statements are not yours to turn. If you find one false, say at which input.
  Laid BY PROGRAM, IN A SANDBOX (cutbox-rows.mjs): the forced cells as the released guide's own fill.sh prints them over the translation 90c9fefc9e7c046b… (all of the seat's roots in one cut). By AI agents, Wed Nov 11 2026. No macro, syntax, notation, axiom, sorry.
-/
import Derived.Test.YtmhpcebiamkciaaGreatChecked
import GoSem.Claim
import GoSem.ClaimJoined
import GoSem.ClaimMapViews
import Derived.JoinedTies
import Derived.KernelRfl
namespace Go.Proofs.YtmhpcebiamkciaaGreat
/- THE CELL 'sum', in the pinned program and in every row, IS THE sha256 OF THE DUMP (.gsa) THAT YtmhpcebiamkciaaGreatProg.lean LOADS. Nothing in Lean hashes anything: it is a label: what it is worth is what the hold of that sum in a sandbox is worth. -/
noncomputable def Tryz.pinned : Pinned := { name := "ytmhpcebiamkciaagreat", sum := "90c9fefc9e7c046b0b7e5a6db0ba93cf6415d4784434fb538cf3b3c7ef7a65f6", checked := Tryz.checked }
namespace Rows
def none {H : Type} : Left H := { results := [], args := [] }

/-- 'scriptinglaw45.CollectorFinalizes': WHATEVER THE INPUT: true; the input reads as it did. -/
def collectorFinalizesSpec : ChangeSpec := { name := "collectorFinalizes", fn := fun _ => fun
  | [d1, d2, d3] => { results := [.lit (.bool true)], args := [d1, d2, d3] }
  | _ => none }
def collectorFinalizesRow : OpenClaim := { program := "ytmhpcebiamkciaagreat", sum := "90c9fefc9e7c046b0b7e5a6db0ba93cf6415d4784434fb538cf3b3c7ef7a65f6", func := "scripting/scriptinglaw45.CollectorFinalizes", spec := "collectorFinalizes", inPlace := ["internal/bytealg.IndexByteString", "internal/bytealg.IndexString"], unfollowed := true, recurses := true, named := ["internal/bytealg.MaxLen"], plainKeys := false, apart := false }
def CollectorFinalizesSaid : Prop := collectorFinalizesRow.holds Tryz.pinned (OpenSpec.ofChange collectorFinalizesSpec)

/-- ITS FALSE NEIGHBOUR: 'it returns false'. Refute it at one input. -/
def collectorFinalizesWrong : ChangeSpec := { name := "collectorFinalizes", fn := fun _ => fun
  | [d1, d2, d3] => { results := [.lit (.bool false)], args := [d1, d2, d3] }
  | _ => none }
def CollectorFinalizesWrongFalsely : Prop := collectorFinalizesRow.holds Tryz.pinned (OpenSpec.ofChange collectorFinalizesWrong)

/-- 'scriptinglaw45.CollectorCycle': WHATEVER THE INPUT: true; the input reads as it did. -/
def collectorCycleSpec : ChangeSpec := { name := "collectorCycle", fn := fun _ => fun
  | [d1, d2, d3] => { results := [.lit (.bool true)], args := [d1, d2, d3] }
  | _ => none }
def collectorCycleRow : OpenClaim := { program := "ytmhpcebiamkciaagreat", sum := "90c9fefc9e7c046b0b7e5a6db0ba93cf6415d4784434fb538cf3b3c7ef7a65f6", func := "scripting/scriptinglaw45.CollectorCycle", spec := "collectorCycle", inPlace := ["internal/bytealg.IndexByteString", "internal/bytealg.IndexString"], unfollowed := true, recurses := true, named := ["internal/bytealg.MaxLen"], plainKeys := false, apart := false }
def CollectorCycleSaid : Prop := collectorCycleRow.holds Tryz.pinned (OpenSpec.ofChange collectorCycleSpec)

/-- ITS FALSE NEIGHBOUR: 'it returns false'. Refute it at one input. -/
def collectorCycleWrong : ChangeSpec := { name := "collectorCycle", fn := fun _ => fun
  | [d1, d2, d3] => { results := [.lit (.bool false)], args := [d1, d2, d3] }
  | _ => none }
def CollectorCycleWrongFalsely : Prop := collectorCycleRow.holds Tryz.pinned (OpenSpec.ofChange collectorCycleWrong)

/-- 'scriptinglaw45.CollectorNil': WHATEVER THE INPUT: true; the input reads as it did. -/
def collectorNilSpec : ChangeSpec := { name := "collectorNil", fn := fun _ => fun
  | [d1, d2, d3] => { results := [.lit (.bool true)], args := [d1, d2, d3] }
  | _ => none }
def collectorNilRow : OpenClaim := { program := "ytmhpcebiamkciaagreat", sum := "90c9fefc9e7c046b0b7e5a6db0ba93cf6415d4784434fb538cf3b3c7ef7a65f6", func := "scripting/scriptinglaw45.CollectorNil", spec := "collectorNil", inPlace := ["internal/bytealg.IndexByteString", "internal/bytealg.IndexString"], unfollowed := true, recurses := true, named := ["internal/bytealg.MaxLen"], plainKeys := false, apart := false }
def CollectorNilSaid : Prop := collectorNilRow.holds Tryz.pinned (OpenSpec.ofChange collectorNilSpec)

/-- ITS FALSE NEIGHBOUR: 'it returns false'. Refute it at one input. -/
def collectorNilWrong : ChangeSpec := { name := "collectorNil", fn := fun _ => fun
  | [d1, d2, d3] => { results := [.lit (.bool false)], args := [d1, d2, d3] }
  | _ => none }
def CollectorNilWrongFalsely : Prop := collectorNilRow.holds Tryz.pinned (OpenSpec.ofChange collectorNilWrong)

/-- 'scriptinglaw45.CollectorKeeps': WHATEVER THE INPUT: true; the input reads as it did. -/
def collectorKeepsSpec : ChangeSpec := { name := "collectorKeeps", fn := fun _ => fun
  | [d1, d2] => { results := [.lit (.bool true)], args := [d1, d2] }
  | _ => none }
def collectorKeepsRow : OpenClaim := { program := "ytmhpcebiamkciaagreat", sum := "90c9fefc9e7c046b0b7e5a6db0ba93cf6415d4784434fb538cf3b3c7ef7a65f6", func := "scripting/scriptinglaw45.CollectorKeeps", spec := "collectorKeeps", inPlace := ["internal/bytealg.IndexByteString", "internal/bytealg.IndexString"], unfollowed := true, recurses := true, named := ["internal/bytealg.MaxLen"], plainKeys := false, apart := false }
def CollectorKeepsSaid : Prop := collectorKeepsRow.holds Tryz.pinned (OpenSpec.ofChange collectorKeepsSpec)

/-- ITS FALSE NEIGHBOUR: 'it returns false'. Refute it at one input. -/
def collectorKeepsWrong : ChangeSpec := { name := "collectorKeeps", fn := fun _ => fun
  | [d1, d2] => { results := [.lit (.bool false)], args := [d1, d2] }
  | _ => none }
def CollectorKeepsWrongFalsely : Prop := collectorKeepsRow.holds Tryz.pinned (OpenSpec.ofChange collectorKeepsWrong)

/-- 'scriptinglaw45.CollectorPlays': WHATEVER THE INPUT: true; the input reads as it did. -/
def collectorPlaysSpec : ChangeSpec := { name := "collectorPlays", fn := fun _ => fun
  | [d1, d2] => { results := [.lit (.bool true)], args := [d1, d2] }
  | _ => none }
def collectorPlaysRow : OpenClaim := { program := "ytmhpcebiamkciaagreat", sum := "90c9fefc9e7c046b0b7e5a6db0ba93cf6415d4784434fb538cf3b3c7ef7a65f6", func := "scripting/scriptinglaw45.CollectorPlays", spec := "collectorPlays", inPlace := ["internal/bytealg.IndexByteString", "internal/bytealg.IndexString"], unfollowed := true, recurses := true, named := ["internal/bytealg.MaxLen"], plainKeys := false, apart := false }
def CollectorPlaysSaid : Prop := collectorPlaysRow.holds Tryz.pinned (OpenSpec.ofChange collectorPlaysSpec)

/-- ITS FALSE NEIGHBOUR: 'it returns false'. Refute it at one input. -/
def collectorPlaysWrong : ChangeSpec := { name := "collectorPlays", fn := fun _ => fun
  | [d1, d2] => { results := [.lit (.bool false)], args := [d1, d2] }
  | _ => none }
def CollectorPlaysWrongFalsely : Prop := collectorPlaysRow.holds Tryz.pinned (OpenSpec.ofChange collectorPlaysWrong)

/- THE SECOND FORM. 'bulk': how many values and letters a reading holds, each counted each time it is reached (what is shared counts as often as it is met; a slice's spare places count too). A statement '..UptoSaid' is the law's where the arguments, and the package variables that the reading takes, are together of bulk at most 1048576: NARROWER than '..Said'. Prove '..Said' where nothing that the law and all that it calls make is longer than what came in: it says more and counts as full. Else prove '..UptoSaid'. A law counts once. -/
mutual
def uptoBulk {H : Type} : DataW H → Nat
  | .lit (.string bytes) => bytes.length + 1
  | .lit _ => 1
  | .nil => 1
  | .ptr d => uptoBulk d + 1
  | .slice elems spare => uptoBulkAll elems + uptoBulkAll spare + 1
  | .agg parts => uptoBulkAll parts + 1
  | .iface _ d => uptoBulk d + 1
  | .map entries => uptoBulkEntries entries + 1
  | .held _ => 1
def uptoBulkAll {H : Type} : List (DataW H) → Nat
  | [] => 0
  | d :: r => uptoBulk d + uptoBulkAll r
def uptoBulkEntries {H : Type} : List (Lit × DataW H) → Nat
  | [] => 0
  | x :: r => uptoBulkEntry x + uptoBulkEntries r
def uptoBulkEntry {H : Type} : Lit × DataW H → Nat
  | (.string bytes, d) => bytes.length + uptoBulk d + 1
  | (_, d) => uptoBulk d + 1
 end
def uptoSmall : (H : Type) → List (DataW H) → Bool := fun _ ds => decide (uptoBulkAll ds ≤ 1048576)
def OpenSpec.upto (s : _root_.Go.ChangeSpec) : _root_.Go.OpenSpec := { _root_.Go.OpenSpec.ofChange s with cond := some uptoSmall }

/-- 'scriptinglaw45.CollectorFinalizes', WHERE WHAT IT READS IS OF BULK AT MOST 1048576: true; the input reads as it did. -/
def collectorFinalizesUptoRow : OpenClaim := { program := "ytmhpcebiamkciaagreat", sum := "90c9fefc9e7c046b0b7e5a6db0ba93cf6415d4784434fb538cf3b3c7ef7a65f6", func := "scripting/scriptinglaw45.CollectorFinalizes", spec := "collectorFinalizes", inPlace := ["internal/bytealg.IndexByteString", "internal/bytealg.IndexString"], unfollowed := true, recurses := true, named := ["internal/bytealg.MaxLen"], plainKeys := false, apart := false, narrowed := true }
def CollectorFinalizesUptoSaid : Prop := collectorFinalizesUptoRow.holds Tryz.pinned (OpenSpec.upto collectorFinalizesSpec)

/-- 'scriptinglaw45.CollectorCycle', WHERE WHAT IT READS IS OF BULK AT MOST 1048576: true; the input reads as it did. -/
def collectorCycleUptoRow : OpenClaim := { program := "ytmhpcebiamkciaagreat", sum := "90c9fefc9e7c046b0b7e5a6db0ba93cf6415d4784434fb538cf3b3c7ef7a65f6", func := "scripting/scriptinglaw45.CollectorCycle", spec := "collectorCycle", inPlace := ["internal/bytealg.IndexByteString", "internal/bytealg.IndexString"], unfollowed := true, recurses := true, named := ["internal/bytealg.MaxLen"], plainKeys := false, apart := false, narrowed := true }
def CollectorCycleUptoSaid : Prop := collectorCycleUptoRow.holds Tryz.pinned (OpenSpec.upto collectorCycleSpec)

/-- 'scriptinglaw45.CollectorNil', WHERE WHAT IT READS IS OF BULK AT MOST 1048576: true; the input reads as it did. -/
def collectorNilUptoRow : OpenClaim := { program := "ytmhpcebiamkciaagreat", sum := "90c9fefc9e7c046b0b7e5a6db0ba93cf6415d4784434fb538cf3b3c7ef7a65f6", func := "scripting/scriptinglaw45.CollectorNil", spec := "collectorNil", inPlace := ["internal/bytealg.IndexByteString", "internal/bytealg.IndexString"], unfollowed := true, recurses := true, named := ["internal/bytealg.MaxLen"], plainKeys := false, apart := false, narrowed := true }
def CollectorNilUptoSaid : Prop := collectorNilUptoRow.holds Tryz.pinned (OpenSpec.upto collectorNilSpec)

/-- 'scriptinglaw45.CollectorKeeps', WHERE WHAT IT READS IS OF BULK AT MOST 1048576: true; the input reads as it did. -/
def collectorKeepsUptoRow : OpenClaim := { program := "ytmhpcebiamkciaagreat", sum := "90c9fefc9e7c046b0b7e5a6db0ba93cf6415d4784434fb538cf3b3c7ef7a65f6", func := "scripting/scriptinglaw45.CollectorKeeps", spec := "collectorKeeps", inPlace := ["internal/bytealg.IndexByteString", "internal/bytealg.IndexString"], unfollowed := true, recurses := true, named := ["internal/bytealg.MaxLen"], plainKeys := false, apart := false, narrowed := true }
def CollectorKeepsUptoSaid : Prop := collectorKeepsUptoRow.holds Tryz.pinned (OpenSpec.upto collectorKeepsSpec)

/-- 'scriptinglaw45.CollectorPlays', WHERE WHAT IT READS IS OF BULK AT MOST 1048576: true; the input reads as it did. -/
def collectorPlaysUptoRow : OpenClaim := { program := "ytmhpcebiamkciaagreat", sum := "90c9fefc9e7c046b0b7e5a6db0ba93cf6415d4784434fb538cf3b3c7ef7a65f6", func := "scripting/scriptinglaw45.CollectorPlays", spec := "collectorPlays", inPlace := ["internal/bytealg.IndexByteString", "internal/bytealg.IndexString"], unfollowed := true, recurses := true, named := ["internal/bytealg.MaxLen"], plainKeys := false, apart := false, narrowed := true }
def CollectorPlaysUptoSaid : Prop := collectorPlaysUptoRow.holds Tryz.pinned (OpenSpec.upto collectorPlaysSpec)

end Rows
end Go.Proofs.YtmhpcebiamkciaaGreat
