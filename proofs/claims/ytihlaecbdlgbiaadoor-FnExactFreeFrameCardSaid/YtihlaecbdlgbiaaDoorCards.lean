/-
  DERIVED. GIVEN WITH THE SEED: THE CARDS: each row of YtihlaecbdlgbiaaDoorRows.lean that lists a variable, with what it lists TIED to the program's text (the seventh form; the later family's looks); each row that meets fmt, with fmt's text TOLD by the authors' own Lean function (tested against real Go, not proved from fmt's source: count such statements apart). THE CARD IS WHAT COUNTS. Prove the row's statement (the work); the ties are given (YtihlaecbdlgbiaaDoorTie.lean); close each card by the builder's one call (the guide's Derived/Test/ToyasCard.lean, 'card_holds'). Laid BY PROGRAM, IN A SANDBOX (cutbox-door.mjs). By AI agents, Wed Nov 11 2026. No macro, syntax, notation, axiom, sorry.
-/
import Derived.Test.YtihlaecbdlgbiaaDoorRows
import GoSem.ClaimSeven
namespace Go.Proofs.YtihlaecbdlgbiaaDoor
namespace Rows

/-- THE TIED CARD OF 'laws.FnExactMachineValid'. -/
def fnExactMachineValidCard : Claim7 := { stood := { row := fnExactMachineValidRow, standIns := [], harness := (true, "df4c5e41bc2b8f1a5ff66c450e067a024ba8a6ee6be0eb17dc576f1a35eedbb4"), looks := false }, kinds := [], alts := [], laidByText := true, laidKinds := [.data], laidTests := true, laidLooks := .later }
def FnExactMachineValidCardSaid : Prop := Claim7.holds Tryd.pinned (.plain (OpenSpec.ofChange fnExactMachineValidSpec)) fnExactMachineValidCard

/-- THE TIED CARD OF 'laws.FnExactMemoryValid'. -/
def fnExactMemoryValidCard : Claim7 := { stood := { row := fnExactMemoryValidRow, standIns := [], harness := (true, "df4c5e41bc2b8f1a5ff66c450e067a024ba8a6ee6be0eb17dc576f1a35eedbb4"), looks := false }, kinds := [], alts := [], laidByText := true, laidKinds := [.data], laidTests := true, laidLooks := .later }
def FnExactMemoryValidCardSaid : Prop := Claim7.holds Tryd.pinned (.plain (OpenSpec.ofChange fnExactMemoryValidSpec)) fnExactMemoryValidCard

/-- THE TIED CARD OF 'laws.FnExactFreeFrame'. -/
def fnExactFreeFrameCard : Claim7 := { stood := { row := fnExactFreeFrameRow, standIns := [], harness := (true, "df4c5e41bc2b8f1a5ff66c450e067a024ba8a6ee6be0eb17dc576f1a35eedbb4"), looks := false }, kinds := [], alts := [], laidByText := true, laidKinds := [.data], laidTests := true, laidLooks := .later }
def FnExactFreeFrameCardSaid : Prop := Claim7.holds Tryd.pinned (.plain (OpenSpec.ofChange fnExactFreeFrameSpec)) fnExactFreeFrameCard

/-- THE SECOND FORM's CARD OF 'laws.FnExactMachineValid'. -/
def fnExactMachineValidUptoCard : Claim7 := { stood := { row := fnExactMachineValidUptoRow, standIns := [], harness := (true, "df4c5e41bc2b8f1a5ff66c450e067a024ba8a6ee6be0eb17dc576f1a35eedbb4"), looks := false }, kinds := [], alts := [], laidByText := true, laidKinds := [.data], laidTests := true, laidLooks := .later }
def FnExactMachineValidUptoCardSaid : Prop := Claim7.holds Tryd.pinned (.plain (OpenSpec.upto fnExactMachineValidSpec)) fnExactMachineValidUptoCard

/-- THE SECOND FORM's CARD OF 'laws.FnExactMemoryValid'. -/
def fnExactMemoryValidUptoCard : Claim7 := { stood := { row := fnExactMemoryValidUptoRow, standIns := [], harness := (true, "df4c5e41bc2b8f1a5ff66c450e067a024ba8a6ee6be0eb17dc576f1a35eedbb4"), looks := false }, kinds := [], alts := [], laidByText := true, laidKinds := [.data], laidTests := true, laidLooks := .later }
def FnExactMemoryValidUptoCardSaid : Prop := Claim7.holds Tryd.pinned (.plain (OpenSpec.upto fnExactMemoryValidSpec)) fnExactMemoryValidUptoCard

/-- THE SECOND FORM's CARD OF 'laws.FnExactFreeFrame'. -/
def fnExactFreeFrameUptoCard : Claim7 := { stood := { row := fnExactFreeFrameUptoRow, standIns := [], harness := (true, "df4c5e41bc2b8f1a5ff66c450e067a024ba8a6ee6be0eb17dc576f1a35eedbb4"), looks := false }, kinds := [], alts := [], laidByText := true, laidKinds := [.data], laidTests := true, laidLooks := .later }
def FnExactFreeFrameUptoCardSaid : Prop := Claim7.holds Tryd.pinned (.plain (OpenSpec.upto fnExactFreeFrameSpec)) fnExactFreeFrameUptoCard
end Rows
end Go.Proofs.YtihlaecbdlgbiaaDoor
