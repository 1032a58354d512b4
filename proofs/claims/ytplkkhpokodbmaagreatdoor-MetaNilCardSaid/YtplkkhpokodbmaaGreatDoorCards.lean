/-
  DERIVED. GIVEN WITH THE SEED: THE CARDS: each row of YtplkkhpokodbmaaGreatDoorRows.lean that lists a variable, with what it lists TIED to the program's text (the seventh form; the later family's looks); each row that meets fmt, with fmt's text TOLD by the authors' own Lean function (tested against real Go, not proved from fmt's source: count such statements apart). THE CARD IS WHAT COUNTS. Prove the row's statement (the work); the ties are given (YtplkkhpokodbmaaGreatDoorTie.lean); close each card by the builder's one call (the guide's Derived/Test/ToyasCard.lean, 'card_holds'). Laid BY PROGRAM, IN A SANDBOX (cutbox-door.mjs). By AI agents, Wed Nov 11 2026. No macro, syntax, notation, axiom, sorry.
-/
import Derived.Test.YtplkkhpokodbmaaGreatDoorRows
import GoSem.ClaimSeven
namespace Go.Proofs.YtplkkhpokodbmaaGreatDoor
namespace Rows

/-- THE TIED CARD OF 'scriptinglaw15.MetaText'. -/
def metaTextCard : Claim7 := { stood := { row := metaTextRow, standIns := [], harness := (true, "77aa31a8c7e8822adaad3b0951f3c2a3c95cf3d1f4947f0b5f60834396427e7c"), looks := false }, kinds := [], alts := [], laidByText := true, laidKinds := [.data, .data, .data], laidTests := true, laidLooks := .later }
def MetaTextCardSaid : Prop := Claim7.holds Tryz.pinned (.plain (OpenSpec.ofChange metaTextSpec)) metaTextCard

/-- THE TIED CARD OF 'scriptinglaw15.MetaNil'. -/
def metaNilCard : Claim7 := { stood := { row := metaNilRow, standIns := [], harness := (true, "77aa31a8c7e8822adaad3b0951f3c2a3c95cf3d1f4947f0b5f60834396427e7c"), looks := false }, kinds := [], alts := [], laidByText := true, laidKinds := [.data, .data, .data], laidTests := true, laidLooks := .later }
def MetaNilCardSaid : Prop := Claim7.holds Tryz.pinned (.plain (OpenSpec.ofChange metaNilSpec)) metaNilCard

/-- THE SECOND FORM's CARD OF 'scriptinglaw15.MetaText'. -/
def metaTextUptoCard : Claim7 := { stood := { row := metaTextUptoRow, standIns := [], harness := (true, "77aa31a8c7e8822adaad3b0951f3c2a3c95cf3d1f4947f0b5f60834396427e7c"), looks := false }, kinds := [], alts := [], laidByText := true, laidKinds := [.data, .data, .data], laidTests := true, laidLooks := .later }
def MetaTextUptoCardSaid : Prop := Claim7.holds Tryz.pinned (.plain (OpenSpec.upto metaTextSpec)) metaTextUptoCard

/-- THE SECOND FORM's CARD OF 'scriptinglaw15.MetaNil'. -/
def metaNilUptoCard : Claim7 := { stood := { row := metaNilUptoRow, standIns := [], harness := (true, "77aa31a8c7e8822adaad3b0951f3c2a3c95cf3d1f4947f0b5f60834396427e7c"), looks := false }, kinds := [], alts := [], laidByText := true, laidKinds := [.data, .data, .data], laidTests := true, laidLooks := .later }
def MetaNilUptoCardSaid : Prop := Claim7.holds Tryz.pinned (.plain (OpenSpec.upto metaNilSpec)) metaNilUptoCard
end Rows
end Go.Proofs.YtplkkhpokodbmaaGreatDoor
