/-
  DERIVED. GIVEN WITH THE SEED: THE CARDS: each row of YtbdlpbladpppjaaGreatDoorRows.lean that lists a variable, with what it lists TIED to the program's text (the seventh form; the later family's looks); each row that meets fmt, with fmt's text TOLD by the authors' own Lean function (tested against real Go, not proved from fmt's source: count such statements apart). THE CARD IS WHAT COUNTS. Prove the row's statement (the work); the ties are given (YtbdlpbladpppjaaGreatDoorTie.lean); close each card by the builder's one call (the guide's Derived/Test/ToyasCard.lean, 'card_holds'). Laid BY PROGRAM, IN A SANDBOX (cutbox-door.mjs). By AI agents, Wed Nov 11 2026. No macro, syntax, notation, axiom, sorry.
-/
import Derived.Test.YtbdlpbladpppjaaGreatDoorRows
import GoSem.ClaimSeven
namespace Go.Proofs.YtbdlpbladpppjaaGreatDoor
namespace Rows

/-- THE TIED CARD OF 'laws.FnFreeFrame'. -/
def fnFreeFrameCard : Claim7 := { stood := { row := fnFreeFrameRow, standIns := [], harness := (true, "0746fc808238edcdf8a8dd39f9a16ee733ae8353f140ad760e628fd274d32408"), looks := false }, kinds := [], alts := [], laidByText := true, laidKinds := [.data], laidTests := true, laidLooks := .later }
def FnFreeFrameCardSaid : Prop := Claim7.holds Tryz.pinned (.plain (OpenSpec.ofChange fnFreeFrameSpec)) fnFreeFrameCard

/-- THE TIED CARD OF 'laws.FnMemorySame'. -/
def fnMemorySameCard : Claim7 := { stood := { row := fnMemorySameRow, standIns := [], harness := (true, "0746fc808238edcdf8a8dd39f9a16ee733ae8353f140ad760e628fd274d32408"), looks := false }, kinds := [], alts := [], laidByText := true, laidKinds := [.data], laidTests := true, laidLooks := .later }
def FnMemorySameCardSaid : Prop := Claim7.holds Tryz.pinned (.plain (OpenSpec.ofChange fnMemorySameSpec)) fnMemorySameCard

/-- THE SECOND FORM's CARD OF 'laws.FnFreeFrame'. -/
def fnFreeFrameUptoCard : Claim7 := { stood := { row := fnFreeFrameUptoRow, standIns := [], harness := (true, "0746fc808238edcdf8a8dd39f9a16ee733ae8353f140ad760e628fd274d32408"), looks := false }, kinds := [], alts := [], laidByText := true, laidKinds := [.data], laidTests := true, laidLooks := .later }
def FnFreeFrameUptoCardSaid : Prop := Claim7.holds Tryz.pinned (.plain (OpenSpec.upto fnFreeFrameSpec)) fnFreeFrameUptoCard

/-- THE SECOND FORM's CARD OF 'laws.FnMemorySame'. -/
def fnMemorySameUptoCard : Claim7 := { stood := { row := fnMemorySameUptoRow, standIns := [], harness := (true, "0746fc808238edcdf8a8dd39f9a16ee733ae8353f140ad760e628fd274d32408"), looks := false }, kinds := [], alts := [], laidByText := true, laidKinds := [.data], laidTests := true, laidLooks := .later }
def FnMemorySameUptoCardSaid : Prop := Claim7.holds Tryz.pinned (.plain (OpenSpec.upto fnMemorySameSpec)) fnMemorySameUptoCard
end Rows
end Go.Proofs.YtbdlpbladpppjaaGreatDoor
