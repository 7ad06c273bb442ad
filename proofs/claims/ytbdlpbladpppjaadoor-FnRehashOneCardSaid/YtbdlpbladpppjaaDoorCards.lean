/-
  DERIVED. GIVEN WITH THE SEED: THE CARDS: each row of YtbdlpbladpppjaaDoorRows.lean that lists a variable, with what it lists TIED to the program's text (the seventh form; the later family's looks); each row that meets fmt, with fmt's text TOLD by the authors' own Lean function (tested against real Go, not proved from fmt's source: count such statements apart). THE CARD IS WHAT COUNTS. Prove the row's statement (the work); the ties are given (YtbdlpbladpppjaaDoorTie.lean); close each card by the builder's one call (the guide's Derived/Test/ToyasCard.lean, 'card_holds'). Laid BY PROGRAM, IN A SANDBOX (cutbox-door.mjs). By AI agents, Wed Nov 11 2026. No macro, syntax, notation, axiom, sorry.
-/
import Derived.Test.YtbdlpbladpppjaaDoorRows
import GoSem.ClaimSeven
namespace Go.Proofs.YtbdlpbladpppjaaDoor
namespace Rows

/-- THE TIED CARD OF 'laws.FnRehashOne'. -/
def fnRehashOneCard : Claim7 := { stood := { row := fnRehashOneRow, standIns := [], harness := (true, "d1ccb03f82c6c0168d23b68ad5a8ffc9e57c606333ff86a10a3893e9708436ba"), looks := false }, kinds := [], alts := [], laidByText := true, laidKinds := [.data], laidTests := true, laidLooks := .later }
def FnRehashOneCardSaid : Prop := Claim7.holds Tryd.pinned (.plain (OpenSpec.ofChange fnRehashOneSpec)) fnRehashOneCard

/-- THE SECOND FORM's CARD OF 'laws.FnRehashOne'. -/
def fnRehashOneUptoCard : Claim7 := { stood := { row := fnRehashOneUptoRow, standIns := [], harness := (true, "d1ccb03f82c6c0168d23b68ad5a8ffc9e57c606333ff86a10a3893e9708436ba"), looks := false }, kinds := [], alts := [], laidByText := true, laidKinds := [.data], laidTests := true, laidLooks := .later }
def FnRehashOneUptoCardSaid : Prop := Claim7.holds Tryd.pinned (.plain (OpenSpec.upto fnRehashOneSpec)) fnRehashOneUptoCard
end Rows
end Go.Proofs.YtbdlpbladpppjaaDoor
