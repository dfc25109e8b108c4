/-
  DERIVED. GIVEN WITH THE SEED: THE CARDS: each row of YtbhdjfhhgnoiiaaGreatDoorRows.lean that lists a variable, with what it lists TIED to the program's text (the seventh form; the later family's looks); each row that meets fmt, with fmt's text TOLD by the authors' own Lean function (tested against real Go, not proved from fmt's source: count such statements apart). THE CARD IS WHAT COUNTS. Prove the row's statement (the work); the ties are given (YtbhdjfhhgnoiiaaGreatDoorTie.lean); close each card by the builder's one call (the guide's Derived/Test/ToyasCard.lean, 'card_holds'). Laid BY PROGRAM, IN A SANDBOX (cutbox-door.mjs). By AI agents, Wed Nov 11 2026. No macro, syntax, notation, axiom, sorry.
-/
import Derived.Test.YtbhdjfhhgnoiiaaGreatDoorRows
import GoSem.ClaimSeven
namespace Go.Proofs.YtbhdjfhhgnoiiaaGreatDoor
namespace Rows

/-- THE TIED CARD OF 'spindlelaw14.DisasmTells'. -/
def disasmTellsCard : Claim7 := { stood := { row := disasmTellsRow, standIns := [], harness := (true, "e99fd23c4793968c72f8b0c0ef870930aa196ff4a8e4898fc8d49cf20a380e64"), looks := false }, kinds := [], alts := [], laidByText := true, laidKinds := [.data, .data, .data, .widerDeep, .widerDeep, .widerDeep, .widerDeep, .widerDeep, .data, .data, .data, .data], laidTests := true, laidLooks := .later }
def DisasmTellsCardSaid : Prop := Claim7.holds Tryz.pinned (.plain (OpenSpec.ofChange disasmTellsSpec)) disasmTellsCard

/-- THE TIED CARD OF 'spindlelaw14.DisasmOwns'. -/
def disasmOwnsCard : Claim7 := { stood := { row := disasmOwnsRow, standIns := [], harness := (true, "e99fd23c4793968c72f8b0c0ef870930aa196ff4a8e4898fc8d49cf20a380e64"), looks := false }, kinds := [], alts := [], laidByText := true, laidKinds := [.data, .data, .data, .widerDeep, .widerDeep, .widerDeep, .widerDeep, .widerDeep, .data, .data, .data, .data], laidTests := true, laidLooks := .later }
def DisasmOwnsCardSaid : Prop := Claim7.holds Tryz.pinned (.plain (OpenSpec.ofChange disasmOwnsSpec)) disasmOwnsCard

/-- THE TIED CARD OF 'spindlelaw24.TidyShapes'. -/
def tidyShapesCard : Claim7 := { stood := { row := tidyShapesRow, standIns := [], harness := (true, "e99fd23c4793968c72f8b0c0ef870930aa196ff4a8e4898fc8d49cf20a380e64"), looks := false }, kinds := [], alts := [], laidByText := true, laidKinds := [.widerDeep, .widerDeep, .widerDeep, .widerDeep, .widerDeep], laidTests := true, laidLooks := .later }
def TidyShapesCardSaid : Prop := Claim7.holds Tryz.pinned (.plain (OpenSpec.ofChange tidyShapesSpec)) tidyShapesCard

/-- THE TIED CARD OF 'spindlelaw24.TidyNeat'. -/
def tidyNeatCard : Claim7 := { stood := { row := tidyNeatRow, standIns := [], harness := (true, "e99fd23c4793968c72f8b0c0ef870930aa196ff4a8e4898fc8d49cf20a380e64"), looks := false }, kinds := [], alts := [], laidByText := true, laidKinds := [.widerDeep, .widerDeep, .widerDeep, .widerDeep, .widerDeep], laidTests := true, laidLooks := .later }
def TidyNeatCardSaid : Prop := Claim7.holds Tryz.pinned (.plain (OpenSpec.ofChange tidyNeatSpec)) tidyNeatCard

/-- THE TIED CARD OF 'spindlelaw24.TidyAgain'. -/
def tidyAgainCard : Claim7 := { stood := { row := tidyAgainRow, standIns := [], harness := (true, "e99fd23c4793968c72f8b0c0ef870930aa196ff4a8e4898fc8d49cf20a380e64"), looks := false }, kinds := [], alts := [], laidByText := true, laidKinds := [.widerDeep, .widerDeep, .widerDeep, .widerDeep, .widerDeep], laidTests := true, laidLooks := .later }
def TidyAgainCardSaid : Prop := Claim7.holds Tryz.pinned (.plain (OpenSpec.ofChange tidyAgainSpec)) tidyAgainCard

/-- THE SECOND FORM's CARD OF 'spindlelaw14.DisasmTells'. -/
def disasmTellsUptoCard : Claim7 := { stood := { row := disasmTellsUptoRow, standIns := [], harness := (true, "e99fd23c4793968c72f8b0c0ef870930aa196ff4a8e4898fc8d49cf20a380e64"), looks := false }, kinds := [], alts := [], laidByText := true, laidKinds := [.data, .data, .data, .widerDeep, .widerDeep, .widerDeep, .widerDeep, .widerDeep, .data, .data, .data, .data], laidTests := true, laidLooks := .later }
def DisasmTellsUptoCardSaid : Prop := Claim7.holds Tryz.pinned (.plain (OpenSpec.upto disasmTellsSpec)) disasmTellsUptoCard

/-- THE SECOND FORM's CARD OF 'spindlelaw14.DisasmOwns'. -/
def disasmOwnsUptoCard : Claim7 := { stood := { row := disasmOwnsUptoRow, standIns := [], harness := (true, "e99fd23c4793968c72f8b0c0ef870930aa196ff4a8e4898fc8d49cf20a380e64"), looks := false }, kinds := [], alts := [], laidByText := true, laidKinds := [.data, .data, .data, .widerDeep, .widerDeep, .widerDeep, .widerDeep, .widerDeep, .data, .data, .data, .data], laidTests := true, laidLooks := .later }
def DisasmOwnsUptoCardSaid : Prop := Claim7.holds Tryz.pinned (.plain (OpenSpec.upto disasmOwnsSpec)) disasmOwnsUptoCard

/-- THE SECOND FORM's CARD OF 'spindlelaw24.TidyShapes'. -/
def tidyShapesUptoCard : Claim7 := { stood := { row := tidyShapesUptoRow, standIns := [], harness := (true, "e99fd23c4793968c72f8b0c0ef870930aa196ff4a8e4898fc8d49cf20a380e64"), looks := false }, kinds := [], alts := [], laidByText := true, laidKinds := [.widerDeep, .widerDeep, .widerDeep, .widerDeep, .widerDeep], laidTests := true, laidLooks := .later }
def TidyShapesUptoCardSaid : Prop := Claim7.holds Tryz.pinned (.plain (OpenSpec.upto tidyShapesSpec)) tidyShapesUptoCard

/-- THE SECOND FORM's CARD OF 'spindlelaw24.TidyNeat'. -/
def tidyNeatUptoCard : Claim7 := { stood := { row := tidyNeatUptoRow, standIns := [], harness := (true, "e99fd23c4793968c72f8b0c0ef870930aa196ff4a8e4898fc8d49cf20a380e64"), looks := false }, kinds := [], alts := [], laidByText := true, laidKinds := [.widerDeep, .widerDeep, .widerDeep, .widerDeep, .widerDeep], laidTests := true, laidLooks := .later }
def TidyNeatUptoCardSaid : Prop := Claim7.holds Tryz.pinned (.plain (OpenSpec.upto tidyNeatSpec)) tidyNeatUptoCard

/-- THE SECOND FORM's CARD OF 'spindlelaw24.TidyAgain'. -/
def tidyAgainUptoCard : Claim7 := { stood := { row := tidyAgainUptoRow, standIns := [], harness := (true, "e99fd23c4793968c72f8b0c0ef870930aa196ff4a8e4898fc8d49cf20a380e64"), looks := false }, kinds := [], alts := [], laidByText := true, laidKinds := [.widerDeep, .widerDeep, .widerDeep, .widerDeep, .widerDeep], laidTests := true, laidLooks := .later }
def TidyAgainUptoCardSaid : Prop := Claim7.holds Tryz.pinned (.plain (OpenSpec.upto tidyAgainSpec)) tidyAgainUptoCard
end Rows
end Go.Proofs.YtbhdjfhhgnoiiaaGreatDoor
