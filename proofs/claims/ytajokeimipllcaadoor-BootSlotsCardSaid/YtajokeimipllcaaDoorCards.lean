/-
  DERIVED. GIVEN WITH THE SEED: THE CARDS: each row of YtajokeimipllcaaDoorRows.lean that lists a variable, with what it lists TIED to the program's text (the seventh form; the later family's looks); each row that meets fmt, with fmt's text TOLD by the authors' own Lean function (tested against real Go, not proved from fmt's source: count such statements apart). THE CARD IS WHAT COUNTS. Prove the row's statement (the work); the ties are given (YtajokeimipllcaaDoorTie.lean); close each card by the builder's one call (the guide's Derived/Test/ToyasCard.lean, 'card_holds'). Laid BY PROGRAM, IN A SANDBOX (cutbox-door.mjs). By AI agents, Wed Nov 11 2026. No macro, syntax, notation, axiom, sorry.
-/
import Derived.Test.YtajokeimipllcaaDoorRows
import GoSem.ClaimSeven
namespace Go.Proofs.YtajokeimipllcaaDoor
namespace Rows

/-- THE TIED CARD OF 'eddylaw08.BootWrites'. -/
def bootWritesCard : Claim7 := { stood := { row := bootWritesRow, standIns := [], harness := (true, "c1d7fc015defb88d8e66f63d20a2298134f5dc83b09514968fd52f43da0d5f08"), looks := false }, kinds := [], alts := [], laidByText := true, laidKinds := [.data], laidTests := true, laidLooks := .later }
def BootWritesCardSaid : Prop := Claim7.holds Tryd.pinned (.plain (OpenSpec.ofChange bootWritesSpec)) bootWritesCard

/-- THE TIED CARD OF 'eddylaw08.BootNever'. -/
def bootNeverCard : Claim7 := { stood := { row := bootNeverRow, standIns := [], harness := (true, "c1d7fc015defb88d8e66f63d20a2298134f5dc83b09514968fd52f43da0d5f08"), looks := false }, kinds := [], alts := [], laidByText := true, laidKinds := [.data], laidTests := true, laidLooks := .later }
def BootNeverCardSaid : Prop := Claim7.holds Tryd.pinned (.plain (OpenSpec.ofChange bootNeverSpec)) bootNeverCard

/-- THE TIED CARD OF 'eddylaw08.BootSlots'. -/
def bootSlotsCard : Claim7 := { stood := { row := bootSlotsRow, standIns := [], harness := (true, "c1d7fc015defb88d8e66f63d20a2298134f5dc83b09514968fd52f43da0d5f08"), looks := false }, kinds := [], alts := [], laidByText := true, laidKinds := [.data], laidTests := true, laidLooks := .later }
def BootSlotsCardSaid : Prop := Claim7.holds Tryd.pinned (.plain (OpenSpec.ofChange bootSlotsSpec)) bootSlotsCard

/-- THE SECOND FORM's CARD OF 'eddylaw08.BootWrites'. -/
def bootWritesUptoCard : Claim7 := { stood := { row := bootWritesUptoRow, standIns := [], harness := (true, "c1d7fc015defb88d8e66f63d20a2298134f5dc83b09514968fd52f43da0d5f08"), looks := false }, kinds := [], alts := [], laidByText := true, laidKinds := [.data], laidTests := true, laidLooks := .later }
def BootWritesUptoCardSaid : Prop := Claim7.holds Tryd.pinned (.plain (OpenSpec.upto bootWritesSpec)) bootWritesUptoCard

/-- THE SECOND FORM's CARD OF 'eddylaw08.BootNever'. -/
def bootNeverUptoCard : Claim7 := { stood := { row := bootNeverUptoRow, standIns := [], harness := (true, "c1d7fc015defb88d8e66f63d20a2298134f5dc83b09514968fd52f43da0d5f08"), looks := false }, kinds := [], alts := [], laidByText := true, laidKinds := [.data], laidTests := true, laidLooks := .later }
def BootNeverUptoCardSaid : Prop := Claim7.holds Tryd.pinned (.plain (OpenSpec.upto bootNeverSpec)) bootNeverUptoCard

/-- THE SECOND FORM's CARD OF 'eddylaw08.BootSlots'. -/
def bootSlotsUptoCard : Claim7 := { stood := { row := bootSlotsUptoRow, standIns := [], harness := (true, "c1d7fc015defb88d8e66f63d20a2298134f5dc83b09514968fd52f43da0d5f08"), looks := false }, kinds := [], alts := [], laidByText := true, laidKinds := [.data], laidTests := true, laidLooks := .later }
def BootSlotsUptoCardSaid : Prop := Claim7.holds Tryd.pinned (.plain (OpenSpec.upto bootSlotsSpec)) bootSlotsUptoCard
end Rows
end Go.Proofs.YtajokeimipllcaaDoor
