/-
  DERIVED. GIVEN WITH THE SEED: THE CARDS: each row of YtmipkeabfglfaaaDoorRows.lean that lists a variable, with what it lists TIED to the program's text (the seventh form; the later family's looks); each row that meets fmt, with fmt's text TOLD by the authors' own Lean function (tested against real Go, not proved from fmt's source: count such statements apart). THE CARD IS WHAT COUNTS. Prove the row's statement (the work); the ties are given (YtmipkeabfglfaaaDoorTie.lean); close each card by the builder's one call (the guide's Derived/Test/ToyasCard.lean, 'card_holds'). Laid BY PROGRAM, IN A SANDBOX (cutbox-door.mjs). By AI agents, Wed Nov 11 2026. No macro, syntax, notation, axiom, sorry.
-/
import Derived.Test.YtmipkeabfglfaaaDoorRows
import GoSem.ClaimSeven
namespace Go.Proofs.YtmipkeabfglfaaaDoor
namespace Rows

/-- THE TIED CARD OF 'laws.FnMachineSame'. -/
def fnMachineSameCard : Claim7 := { stood := { row := fnMachineSameRow, standIns := [], harness := (true, "eb4041b2c36005855f9e566c05de5086646da593e3d0f80153a47b9da118316d"), looks := false }, kinds := [], alts := [], laidByText := true, laidKinds := [.data], laidTests := true, laidLooks := .later }
def FnMachineSameCardSaid : Prop := Claim7.holds Tryd.pinned (.plain (OpenSpec.ofChange fnMachineSameSpec)) fnMachineSameCard

/-- THE TIED CARD OF 'laws.FnRehashOne'. -/
def fnRehashOneCard : Claim7 := { stood := { row := fnRehashOneRow, standIns := [], harness := (true, "eb4041b2c36005855f9e566c05de5086646da593e3d0f80153a47b9da118316d"), looks := false }, kinds := [], alts := [], laidByText := true, laidKinds := [.data], laidTests := true, laidLooks := .later }
def FnRehashOneCardSaid : Prop := Claim7.holds Tryd.pinned (.plain (OpenSpec.ofChange fnRehashOneSpec)) fnRehashOneCard

/-- THE TIED CARD OF 'laws.FnMachineValid'. -/
def fnMachineValidCard : Claim7 := { stood := { row := fnMachineValidRow, standIns := [], harness := (true, "eb4041b2c36005855f9e566c05de5086646da593e3d0f80153a47b9da118316d"), looks := false }, kinds := [], alts := [], laidByText := true, laidKinds := [.data], laidTests := true, laidLooks := .later }
def FnMachineValidCardSaid : Prop := Claim7.holds Tryd.pinned (.plain (OpenSpec.ofChange fnMachineValidSpec)) fnMachineValidCard

/-- THE SECOND FORM's CARD OF 'laws.FnMachineSame'. -/
def fnMachineSameUptoCard : Claim7 := { stood := { row := fnMachineSameUptoRow, standIns := [], harness := (true, "eb4041b2c36005855f9e566c05de5086646da593e3d0f80153a47b9da118316d"), looks := false }, kinds := [], alts := [], laidByText := true, laidKinds := [.data], laidTests := true, laidLooks := .later }
def FnMachineSameUptoCardSaid : Prop := Claim7.holds Tryd.pinned (.plain (OpenSpec.upto fnMachineSameSpec)) fnMachineSameUptoCard

/-- THE SECOND FORM's CARD OF 'laws.FnRehashOne'. -/
def fnRehashOneUptoCard : Claim7 := { stood := { row := fnRehashOneUptoRow, standIns := [], harness := (true, "eb4041b2c36005855f9e566c05de5086646da593e3d0f80153a47b9da118316d"), looks := false }, kinds := [], alts := [], laidByText := true, laidKinds := [.data], laidTests := true, laidLooks := .later }
def FnRehashOneUptoCardSaid : Prop := Claim7.holds Tryd.pinned (.plain (OpenSpec.upto fnRehashOneSpec)) fnRehashOneUptoCard

/-- THE SECOND FORM's CARD OF 'laws.FnMachineValid'. -/
def fnMachineValidUptoCard : Claim7 := { stood := { row := fnMachineValidUptoRow, standIns := [], harness := (true, "eb4041b2c36005855f9e566c05de5086646da593e3d0f80153a47b9da118316d"), looks := false }, kinds := [], alts := [], laidByText := true, laidKinds := [.data], laidTests := true, laidLooks := .later }
def FnMachineValidUptoCardSaid : Prop := Claim7.holds Tryd.pinned (.plain (OpenSpec.upto fnMachineValidSpec)) fnMachineValidUptoCard
end Rows
end Go.Proofs.YtmipkeabfglfaaaDoor
