/-
  No cell of these rows narrows 'for every input' (looked for: loops, veiled, ifaces, maps, wideKeys, modest, calm, conditions, laid).
  DERIVED. THE GIVEN ROWS OF THIS SEAT. 5 by the template 'for every input the law returns true; each argument reads behind the call as it read before'; 0 by the template 'total and deterministic' (their statements: YtmilekfknhglkaaTotals.lean).
  GIVEN WITH THE SEED: the statements are not yours to turn. If you find one false, say at which input.
  Laid BY PROGRAM, IN A SANDBOX (cutbox-rows.mjs): the forced cells as the released guide's own fill.sh prints them over the translation 130573c59048c251… (all of the seat's roots in one cut). By AI agents, Wed Nov 11 2026. No macro, syntax, notation, axiom, sorry.
-/
import Derived.Test.YtmilekfknhglkaaChecked
import GoSem.Claim
import GoSem.ClaimJoined
import GoSem.ClaimMapViews
import Derived.JoinedTies
import Derived.KernelRfl
namespace Go.Proofs.Ytmilekfknhglkaa
/- THE CELL 'sum', in the pinned program and in every row, IS THE sha256 OF THE DUMP (.gsa) THAT YtmilekfknhglkaaProg.lean LOADS. Nothing in Lean hashes anything: it is a label: what it is worth is what the hold of that sum in a sandbox is worth. -/
noncomputable def Try.pinned : Pinned := { name := "ytmilekfknhglkaa", sum := "130573c59048c251f17c655ee1ceb0f50969305afab092e1588620c11be676f8", checked := Try.checked }
namespace Rows
def none {H : Type} : Left H := { results := [], args := [] }

/-- 'scriptinglaw14.HeapTables': WHATEVER THE INPUT: true; the input reads as it did. -/
def heapTablesSpec : ChangeSpec := { name := "heapTables", fn := fun _ => fun
  | [d1, d2] => { results := [.lit (.bool true)], args := [d1, d2] }
  | _ => none }
def heapTablesRow : OpenClaim := { program := "ytmilekfknhglkaa", sum := "130573c59048c251f17c655ee1ceb0f50969305afab092e1588620c11be676f8", func := "scripting/scriptinglaw14.HeapTables", spec := "heapTables", recurses := true, plainKeys := false, apart := false }
def HeapTablesSaid : Prop := heapTablesRow.holds Try.pinned (OpenSpec.ofChange heapTablesSpec)

/-- ITS FALSE NEIGHBOUR: 'it returns false'. Refute it at one input. -/
def heapTablesWrong : ChangeSpec := { name := "heapTables", fn := fun _ => fun
  | [d1, d2] => { results := [.lit (.bool false)], args := [d1, d2] }
  | _ => none }
def HeapTablesWrongFalsely : Prop := heapTablesRow.holds Try.pinned (OpenSpec.ofChange heapTablesWrong)

/-- 'scriptinglaw14.HeapWeak': WHATEVER THE INPUT: true; the input reads as it did. -/
def heapWeakSpec : ChangeSpec := { name := "heapWeak", fn := fun _ => fun
  | [d1, d2] => { results := [.lit (.bool true)], args := [d1, d2] }
  | _ => none }
def heapWeakRow : OpenClaim := { program := "ytmilekfknhglkaa", sum := "130573c59048c251f17c655ee1ceb0f50969305afab092e1588620c11be676f8", func := "scripting/scriptinglaw14.HeapWeak", spec := "heapWeak", recurses := true, plainKeys := false, apart := false }
def HeapWeakSaid : Prop := heapWeakRow.holds Try.pinned (OpenSpec.ofChange heapWeakSpec)

/-- ITS FALSE NEIGHBOUR: 'it returns false'. Refute it at one input. -/
def heapWeakWrong : ChangeSpec := { name := "heapWeak", fn := fun _ => fun
  | [d1, d2] => { results := [.lit (.bool false)], args := [d1, d2] }
  | _ => none }
def HeapWeakWrongFalsely : Prop := heapWeakRow.holds Try.pinned (OpenSpec.ofChange heapWeakWrong)

/-- 'scriptinglaw14.HeapAscends': WHATEVER THE INPUT: true; the input reads as it did. -/
def heapAscendsSpec : ChangeSpec := { name := "heapAscends", fn := fun _ => fun
  | [d] => { results := [.lit (.bool true)], args := [d] }
  | _ => none }
def heapAscendsRow : OpenClaim := { program := "ytmilekfknhglkaa", sum := "130573c59048c251f17c655ee1ceb0f50969305afab092e1588620c11be676f8", func := "scripting/scriptinglaw14.HeapAscends", spec := "heapAscends", recurses := true, plainKeys := false, apart := false }
def HeapAscendsSaid : Prop := heapAscendsRow.holds Try.pinned (OpenSpec.ofChange heapAscendsSpec)

/-- ITS FALSE NEIGHBOUR: 'it returns false'. Refute it at one input. -/
def heapAscendsWrong : ChangeSpec := { name := "heapAscends", fn := fun _ => fun
  | [d] => { results := [.lit (.bool false)], args := [d] }
  | _ => none }
def HeapAscendsWrongFalsely : Prop := heapAscendsRow.holds Try.pinned (OpenSpec.ofChange heapAscendsWrong)

/-- 'scriptinglaw14.HeapKeeps': WHATEVER THE INPUT: true; the input reads as it did. -/
def heapKeepsSpec : ChangeSpec := { name := "heapKeeps", fn := fun _ => fun
  | [d1, d2, d3, d4] => { results := [.lit (.bool true)], args := [d1, d2, d3, d4] }
  | _ => none }
def heapKeepsRow : OpenClaim := { program := "ytmilekfknhglkaa", sum := "130573c59048c251f17c655ee1ceb0f50969305afab092e1588620c11be676f8", func := "scripting/scriptinglaw14.HeapKeeps", spec := "heapKeeps", recurses := true, plainKeys := false, apart := false }
def HeapKeepsSaid : Prop := heapKeepsRow.holds Try.pinned (OpenSpec.ofChange heapKeepsSpec)

/-- ITS FALSE NEIGHBOUR: 'it returns false'. Refute it at one input. -/
def heapKeepsWrong : ChangeSpec := { name := "heapKeeps", fn := fun _ => fun
  | [d1, d2, d3, d4] => { results := [.lit (.bool false)], args := [d1, d2, d3, d4] }
  | _ => none }
def HeapKeepsWrongFalsely : Prop := heapKeepsRow.holds Try.pinned (OpenSpec.ofChange heapKeepsWrong)

/-- 'scriptinglaw14.HeapNone': WHATEVER THE INPUT: true; the input reads as it did. -/
def heapNoneSpec : ChangeSpec := { name := "heapNone", fn := fun _ => fun
  | [d1, d2] => { results := [.lit (.bool true)], args := [d1, d2] }
  | _ => none }
def heapNoneRow : OpenClaim := { program := "ytmilekfknhglkaa", sum := "130573c59048c251f17c655ee1ceb0f50969305afab092e1588620c11be676f8", func := "scripting/scriptinglaw14.HeapNone", spec := "heapNone", unfollowed := true, recurses := true, plainKeys := false, apart := false }
def HeapNoneSaid : Prop := heapNoneRow.holds Try.pinned (OpenSpec.ofChange heapNoneSpec)

/-- ITS FALSE NEIGHBOUR: 'it returns false'. Refute it at one input. -/
def heapNoneWrong : ChangeSpec := { name := "heapNone", fn := fun _ => fun
  | [d1, d2] => { results := [.lit (.bool false)], args := [d1, d2] }
  | _ => none }
def HeapNoneWrongFalsely : Prop := heapNoneRow.holds Try.pinned (OpenSpec.ofChange heapNoneWrong)

/- THE SECOND FORM. 'bulk': how many values and letters a reading holds, each counted each time it is reached (what is shared counts as often as it is met; a slice's spare places count too). A statement '..UptoSaid' is the law's where the arguments, and the package variables that the reading takes, are together of bulk at most 1048576: NARROWER than '..Said'. Prove '..Said' where nothing that the law and all that it calls make is longer than what came in: it says more and counts as full. Else prove '..UptoSaid'. A law counts once. -/
mutual
def uptoBulk {H : Type} : DataW H → Nat
  | .lit (.string bytes) => bytes.length + 1
  | .lit _ => 1
  | .nil => 1
  | .ptr d => uptoBulk d + 1
  | .slice elems spare => uptoBulkAll elems + uptoBulkAll spare + 1
  | .agg parts => uptoBulkAll parts + 1
  | .iface _ d => uptoBulk d + 1
  | .map entries => uptoBulkEntries entries + 1
  | .held _ => 1
def uptoBulkAll {H : Type} : List (DataW H) → Nat
  | [] => 0
  | d :: r => uptoBulk d + uptoBulkAll r
def uptoBulkEntries {H : Type} : List (Lit × DataW H) → Nat
  | [] => 0
  | x :: r => uptoBulkEntry x + uptoBulkEntries r
def uptoBulkEntry {H : Type} : Lit × DataW H → Nat
  | (.string bytes, d) => bytes.length + uptoBulk d + 1
  | (_, d) => uptoBulk d + 1
 end
def uptoSmall : (H : Type) → List (DataW H) → Bool := fun _ ds => decide (uptoBulkAll ds ≤ 1048576)
def OpenSpec.upto (s : _root_.Go.ChangeSpec) : _root_.Go.OpenSpec := { _root_.Go.OpenSpec.ofChange s with cond := some uptoSmall }

/-- 'scriptinglaw14.HeapTables', WHERE WHAT IT READS IS OF BULK AT MOST 1048576: true; the input reads as it did. -/
def heapTablesUptoRow : OpenClaim := { program := "ytmilekfknhglkaa", sum := "130573c59048c251f17c655ee1ceb0f50969305afab092e1588620c11be676f8", func := "scripting/scriptinglaw14.HeapTables", spec := "heapTables", recurses := true, plainKeys := false, apart := false, narrowed := true }
def HeapTablesUptoSaid : Prop := heapTablesUptoRow.holds Try.pinned (OpenSpec.upto heapTablesSpec)

/-- 'scriptinglaw14.HeapWeak', WHERE WHAT IT READS IS OF BULK AT MOST 1048576: true; the input reads as it did. -/
def heapWeakUptoRow : OpenClaim := { program := "ytmilekfknhglkaa", sum := "130573c59048c251f17c655ee1ceb0f50969305afab092e1588620c11be676f8", func := "scripting/scriptinglaw14.HeapWeak", spec := "heapWeak", recurses := true, plainKeys := false, apart := false, narrowed := true }
def HeapWeakUptoSaid : Prop := heapWeakUptoRow.holds Try.pinned (OpenSpec.upto heapWeakSpec)

/-- 'scriptinglaw14.HeapAscends', WHERE WHAT IT READS IS OF BULK AT MOST 1048576: true; the input reads as it did. -/
def heapAscendsUptoRow : OpenClaim := { program := "ytmilekfknhglkaa", sum := "130573c59048c251f17c655ee1ceb0f50969305afab092e1588620c11be676f8", func := "scripting/scriptinglaw14.HeapAscends", spec := "heapAscends", recurses := true, plainKeys := false, apart := false, narrowed := true }
def HeapAscendsUptoSaid : Prop := heapAscendsUptoRow.holds Try.pinned (OpenSpec.upto heapAscendsSpec)

/-- 'scriptinglaw14.HeapKeeps', WHERE WHAT IT READS IS OF BULK AT MOST 1048576: true; the input reads as it did. -/
def heapKeepsUptoRow : OpenClaim := { program := "ytmilekfknhglkaa", sum := "130573c59048c251f17c655ee1ceb0f50969305afab092e1588620c11be676f8", func := "scripting/scriptinglaw14.HeapKeeps", spec := "heapKeeps", recurses := true, plainKeys := false, apart := false, narrowed := true }
def HeapKeepsUptoSaid : Prop := heapKeepsUptoRow.holds Try.pinned (OpenSpec.upto heapKeepsSpec)

/-- 'scriptinglaw14.HeapNone', WHERE WHAT IT READS IS OF BULK AT MOST 1048576: true; the input reads as it did. -/
def heapNoneUptoRow : OpenClaim := { program := "ytmilekfknhglkaa", sum := "130573c59048c251f17c655ee1ceb0f50969305afab092e1588620c11be676f8", func := "scripting/scriptinglaw14.HeapNone", spec := "heapNone", unfollowed := true, recurses := true, plainKeys := false, apart := false, narrowed := true }
def HeapNoneUptoSaid : Prop := heapNoneUptoRow.holds Try.pinned (OpenSpec.upto heapNoneSpec)

end Rows
end Go.Proofs.Ytmilekfknhglkaa
