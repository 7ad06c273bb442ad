/-
  DERIVED. GIVEN WITH THE SEED: THE CARDS: each row of YtkoegcalfibinaaDoorRows.lean that lists a variable, with what it lists TIED to the program's text (the seventh form; the later family's looks); each row that meets fmt, with fmt's text TOLD by the authors' own Lean function (tested against real Go, not proved from fmt's source: count such statements apart). THE CARD IS WHAT COUNTS. Prove the row's statement (the work); the ties are given (YtkoegcalfibinaaDoorTie.lean); close each card by the builder's one call (the guide's Derived/Test/ToyasCard.lean, 'card_holds'). Laid BY PROGRAM, IN A SANDBOX (cutbox-door.mjs). By AI agents, Wed Nov 11 2026. No macro, syntax, notation, axiom, sorry.
-/
import Derived.Test.YtkoegcalfibinaaDoorRows
import GoSem.ClaimSeven
namespace Go.Proofs.YtkoegcalfibinaaDoor
namespace Rows

/-- THE TIED CARD OF 'laws.FnExactNewSystem'. -/
def fnExactNewSystemCard : Claim7 := { stood := { row := fnExactNewSystemRow, standIns := [], harness := (true, "f0fcf80f52bf570c1b972b9a10319b8ad514967be2c73a6a85d19140e9fa4b55"), looks := false }, kinds := [], alts := [], laidByText := true, laidKinds := [.data], laidTests := true, laidLooks := .later }
def FnExactNewSystemCardSaid : Prop := Claim7.holds Tryd.pinned (.plain (OpenSpec.ofChange fnExactNewSystemSpec)) fnExactNewSystemCard

/-- THE TIED CARD OF 'laws.FnExactNewMachine'. -/
def fnExactNewMachineCard : Claim7 := { stood := { row := fnExactNewMachineRow, standIns := [], harness := (true, "f0fcf80f52bf570c1b972b9a10319b8ad514967be2c73a6a85d19140e9fa4b55"), looks := false }, kinds := [], alts := [], laidByText := true, laidKinds := [.data], laidTests := true, laidLooks := .later }
def FnExactNewMachineCardSaid : Prop := Claim7.holds Tryd.pinned (.plain (OpenSpec.ofChange fnExactNewMachineSpec)) fnExactNewMachineCard

/-- THE TIED CARD OF 'laws.FnExactMachineValid'. -/
def fnExactMachineValidCard : Claim7 := { stood := { row := fnExactMachineValidRow, standIns := [], harness := (true, "f0fcf80f52bf570c1b972b9a10319b8ad514967be2c73a6a85d19140e9fa4b55"), looks := false }, kinds := [], alts := [], laidByText := true, laidKinds := [.data], laidTests := true, laidLooks := .later }
def FnExactMachineValidCardSaid : Prop := Claim7.holds Tryd.pinned (.plain (OpenSpec.ofChange fnExactMachineValidSpec)) fnExactMachineValidCard

/-- THE TIED CARD OF 'laws.FnExactMemoryValid'. -/
def fnExactMemoryValidCard : Claim7 := { stood := { row := fnExactMemoryValidRow, standIns := [], harness := (true, "f0fcf80f52bf570c1b972b9a10319b8ad514967be2c73a6a85d19140e9fa4b55"), looks := false }, kinds := [], alts := [], laidByText := true, laidKinds := [.data], laidTests := true, laidLooks := .later }
def FnExactMemoryValidCardSaid : Prop := Claim7.holds Tryd.pinned (.plain (OpenSpec.ofChange fnExactMemoryValidSpec)) fnExactMemoryValidCard

/-- THE TIED CARD OF 'laws.FnExactFreeFrame'. -/
def fnExactFreeFrameCard : Claim7 := { stood := { row := fnExactFreeFrameRow, standIns := [], harness := (true, "f0fcf80f52bf570c1b972b9a10319b8ad514967be2c73a6a85d19140e9fa4b55"), looks := false }, kinds := [], alts := [], laidByText := true, laidKinds := [.data], laidTests := true, laidLooks := .later }
def FnExactFreeFrameCardSaid : Prop := Claim7.holds Tryd.pinned (.plain (OpenSpec.ofChange fnExactFreeFrameSpec)) fnExactFreeFrameCard

/-- THE SECOND FORM's CARD OF 'laws.FnExactNewSystem'. -/
def fnExactNewSystemUptoCard : Claim7 := { stood := { row := fnExactNewSystemUptoRow, standIns := [], harness := (true, "f0fcf80f52bf570c1b972b9a10319b8ad514967be2c73a6a85d19140e9fa4b55"), looks := false }, kinds := [], alts := [], laidByText := true, laidKinds := [.data], laidTests := true, laidLooks := .later }
def FnExactNewSystemUptoCardSaid : Prop := Claim7.holds Tryd.pinned (.plain (OpenSpec.upto fnExactNewSystemSpec)) fnExactNewSystemUptoCard

/-- THE SECOND FORM's CARD OF 'laws.FnExactNewMachine'. -/
def fnExactNewMachineUptoCard : Claim7 := { stood := { row := fnExactNewMachineUptoRow, standIns := [], harness := (true, "f0fcf80f52bf570c1b972b9a10319b8ad514967be2c73a6a85d19140e9fa4b55"), looks := false }, kinds := [], alts := [], laidByText := true, laidKinds := [.data], laidTests := true, laidLooks := .later }
def FnExactNewMachineUptoCardSaid : Prop := Claim7.holds Tryd.pinned (.plain (OpenSpec.upto fnExactNewMachineSpec)) fnExactNewMachineUptoCard

/-- THE SECOND FORM's CARD OF 'laws.FnExactMachineValid'. -/
def fnExactMachineValidUptoCard : Claim7 := { stood := { row := fnExactMachineValidUptoRow, standIns := [], harness := (true, "f0fcf80f52bf570c1b972b9a10319b8ad514967be2c73a6a85d19140e9fa4b55"), looks := false }, kinds := [], alts := [], laidByText := true, laidKinds := [.data], laidTests := true, laidLooks := .later }
def FnExactMachineValidUptoCardSaid : Prop := Claim7.holds Tryd.pinned (.plain (OpenSpec.upto fnExactMachineValidSpec)) fnExactMachineValidUptoCard

/-- THE SECOND FORM's CARD OF 'laws.FnExactMemoryValid'. -/
def fnExactMemoryValidUptoCard : Claim7 := { stood := { row := fnExactMemoryValidUptoRow, standIns := [], harness := (true, "f0fcf80f52bf570c1b972b9a10319b8ad514967be2c73a6a85d19140e9fa4b55"), looks := false }, kinds := [], alts := [], laidByText := true, laidKinds := [.data], laidTests := true, laidLooks := .later }
def FnExactMemoryValidUptoCardSaid : Prop := Claim7.holds Tryd.pinned (.plain (OpenSpec.upto fnExactMemoryValidSpec)) fnExactMemoryValidUptoCard

/-- THE SECOND FORM's CARD OF 'laws.FnExactFreeFrame'. -/
def fnExactFreeFrameUptoCard : Claim7 := { stood := { row := fnExactFreeFrameUptoRow, standIns := [], harness := (true, "f0fcf80f52bf570c1b972b9a10319b8ad514967be2c73a6a85d19140e9fa4b55"), looks := false }, kinds := [], alts := [], laidByText := true, laidKinds := [.data], laidTests := true, laidLooks := .later }
def FnExactFreeFrameUptoCardSaid : Prop := Claim7.holds Tryd.pinned (.plain (OpenSpec.upto fnExactFreeFrameSpec)) fnExactFreeFrameUptoCard
end Rows
end Go.Proofs.YtkoegcalfibinaaDoor
