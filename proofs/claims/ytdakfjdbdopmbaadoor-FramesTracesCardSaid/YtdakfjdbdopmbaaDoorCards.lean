/-
  DERIVED. GIVEN WITH THE SEED: THE CARDS: each row of YtdakfjdbdopmbaaDoorRows.lean that lists a variable, with what it lists TIED to the program's text (the seventh form; the later family's looks); each row that meets fmt, with fmt's text TOLD by the authors' own Lean function (tested against real Go, not proved from fmt's source: count such statements apart). THE CARD IS WHAT COUNTS. Prove the row's statement (the work); the ties are given (YtdakfjdbdopmbaaDoorTie.lean); close each card by the builder's one call (the guide's Derived/Test/ToyasCard.lean, 'card_holds'). Laid BY PROGRAM, IN A SANDBOX (cutbox-door.mjs). By AI agents, Wed Nov 11 2026. No macro, syntax, notation, axiom, sorry.
-/
import Derived.Test.YtdakfjdbdopmbaaDoorRows
import GoSem.ClaimSeven
namespace Go.Proofs.YtdakfjdbdopmbaaDoor
namespace Rows

/-- THE TIED CARD OF 'scriptinglaw43.FramesTraces'. -/
def framesTracesCard : Claim7 := { stood := { row := framesTracesRow, standIns := [], harness := (true, "9439ea43c0c5aee89e4751c8b37c8c4af57b0388f19fbf93b9d1eedad904a0c0"), looks := false }, kinds := [], alts := [], laidByText := true, laidKinds := [.data, .data, .data], laidTests := true, laidLooks := .later }
def FramesTracesCardSaid : Prop := Claim7.holds Tryd.pinned (.plain (OpenSpec.ofChange framesTracesSpec)) framesTracesCard

/-- THE TIED CARD OF 'scriptinglaw17.StackHolds'. -/
def stackHoldsCard : Claim7 := { stood := { row := stackHoldsRow, standIns := [], harness := (true, "9439ea43c0c5aee89e4751c8b37c8c4af57b0388f19fbf93b9d1eedad904a0c0"), looks := false }, kinds := [], alts := [], laidByText := true, laidKinds := [.data, .data, .data], laidTests := true, laidLooks := .later }
def StackHoldsCardSaid : Prop := Claim7.holds Tryd.pinned (.plain (OpenSpec.ofChange stackHoldsSpec)) stackHoldsCard

/-- THE SECOND FORM's CARD OF 'scriptinglaw43.FramesTraces'. -/
def framesTracesUptoCard : Claim7 := { stood := { row := framesTracesUptoRow, standIns := [], harness := (true, "9439ea43c0c5aee89e4751c8b37c8c4af57b0388f19fbf93b9d1eedad904a0c0"), looks := false }, kinds := [], alts := [], laidByText := true, laidKinds := [.data, .data, .data], laidTests := true, laidLooks := .later }
def FramesTracesUptoCardSaid : Prop := Claim7.holds Tryd.pinned (.plain (OpenSpec.upto framesTracesSpec)) framesTracesUptoCard

/-- THE SECOND FORM's CARD OF 'scriptinglaw17.StackHolds'. -/
def stackHoldsUptoCard : Claim7 := { stood := { row := stackHoldsUptoRow, standIns := [], harness := (true, "9439ea43c0c5aee89e4751c8b37c8c4af57b0388f19fbf93b9d1eedad904a0c0"), looks := false }, kinds := [], alts := [], laidByText := true, laidKinds := [.data, .data, .data], laidTests := true, laidLooks := .later }
def StackHoldsUptoCardSaid : Prop := Claim7.holds Tryd.pinned (.plain (OpenSpec.upto stackHoldsSpec)) stackHoldsUptoCard
end Rows
end Go.Proofs.YtdakfjdbdopmbaaDoor
