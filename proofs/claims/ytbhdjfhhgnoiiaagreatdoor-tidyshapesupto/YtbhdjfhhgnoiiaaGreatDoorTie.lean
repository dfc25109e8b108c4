/-
  DERIVED. GIVEN WITH THE SEED: THE PROGRAM's TIES (one call each: nine closed facts by the kernel) AND EACH ROW's TIE, after the 31st guide's Derived/Test/Toyas{Tie, Card}.lean. No idea stands in it: it is a product of the set-up. Laid BY PROGRAM, IN A SANDBOX (cutbox-door.mjs). By AI agents, Wed Nov 11 2026. No macro, syntax, notation, axiom, sorry.
-/
import Derived.Test.YtbhdjfhhgnoiiaaGreatDoorRows
import Derived.LaidByTextLater
import Derived.SevenTiedAt
import Derived.LaidSub
import Derived.LaidOnce
namespace Go.Proofs.YtbhdjfhhgnoiiaaGreatDoor
open Go
set_option maxRecDepth 100000
theorem seatTie1 : Tryz.prog.laidByTextLater [("math/bits.deBruijn32tab", Rows.laid_math_bits_deBruijn32tab), ("math/bits.deBruijn64tab", Rows.laid_math_bits_deBruijn64tab), ("internal/strconv.uint64pow10", Rows.laid_internal_strconv_uint64pow10), ("spindle/isa.arithmetic", Rows.laid_spindle_isa_arithmetic), ("spindle/isa.compares", Rows.laid_spindle_isa_compares), ("spindle/isa.loads", Rows.laid_spindle_isa_loads), ("spindle/isa.stores", Rows.laid_spindle_isa_stores), ("spindle/isa.atomics", Rows.laid_spindle_isa_atomics), ("spindle/line.arithmetic", Rows.laid_spindle_line_arithmetic), ("spindle/line.compares", Rows.laid_spindle_line_compares), ("spindle/line.atomics", Rows.laid_spindle_line_atomics), ("spindle/line.atomicImms", Rows.laid_spindle_line_atomicImms)] [.data, .data, .data, .widerDeep, .widerDeep, .widerDeep, .widerDeep, .widerDeep, .data, .data, .data, .data] true :=
  Program.laidByTextLater_by_one 69 8 65 (by kernel_rfl) (by kernel_rfl) (by kernel_rfl) (by kernel_rfl) (by kernel_rfl) (by kernel_rfl) (fun _ _ => by kernel_rfl)
theorem noOwnUnsafe : Tryz.pinned.checked.prog.headLifts.contains "ownunsafe" = false := by kernel_rfl
theorem tie : Tryz.prog.laidByTextLater [("math/bits.deBruijn32tab", Rows.laid_math_bits_deBruijn32tab), ("math/bits.deBruijn64tab", Rows.laid_math_bits_deBruijn64tab), ("internal/strconv.uint64pow10", Rows.laid_internal_strconv_uint64pow10), ("spindle/isa.arithmetic", Rows.laid_spindle_isa_arithmetic), ("spindle/isa.compares", Rows.laid_spindle_isa_compares), ("spindle/isa.loads", Rows.laid_spindle_isa_loads), ("spindle/isa.stores", Rows.laid_spindle_isa_stores), ("spindle/isa.atomics", Rows.laid_spindle_isa_atomics), ("spindle/line.arithmetic", Rows.laid_spindle_line_arithmetic), ("spindle/line.compares", Rows.laid_spindle_line_compares), ("spindle/line.atomics", Rows.laid_spindle_line_atomics), ("spindle/line.atomicImms", Rows.laid_spindle_line_atomicImms)] [.data, .data, .data, .widerDeep, .widerDeep, .widerDeep, .widerDeep, .widerDeep, .data, .data, .data, .data] true :=
  Program.laidByTextLater.sub seatTie1 ["math/bits.deBruijn32tab", "math/bits.deBruijn64tab", "internal/strconv.uint64pow10", "spindle/isa.arithmetic", "spindle/isa.compares", "spindle/isa.loads", "spindle/isa.stores", "spindle/isa.atomics", "spindle/line.arithmetic", "spindle/line.compares", "spindle/line.atomics", "spindle/line.atomicImms"] (by kernel_rfl) (by kernel_rfl)
theorem disasmTells_row_tie : Rows.disasmTellsRow.laidByTextAt .later Tryz.pinned [.data, .data, .data, .widerDeep, .widerDeep, .widerDeep, .widerDeep, .widerDeep, .data, .data, .data, .data] true :=
  OpenClaim.laidByTextAt_later rfl rfl tie noOwnUnsafe
theorem disasmOwns_row_tie : Rows.disasmOwnsRow.laidByTextAt .later Tryz.pinned [.data, .data, .data, .widerDeep, .widerDeep, .widerDeep, .widerDeep, .widerDeep, .data, .data, .data, .data] true :=
  OpenClaim.laidByTextAt_later rfl rfl tie noOwnUnsafe
theorem tie2 : Tryz.prog.laidByTextLater [("spindle/isa.arithmetic", Rows.laid_spindle_isa_arithmetic), ("spindle/isa.compares", Rows.laid_spindle_isa_compares), ("spindle/isa.loads", Rows.laid_spindle_isa_loads), ("spindle/isa.stores", Rows.laid_spindle_isa_stores), ("spindle/isa.atomics", Rows.laid_spindle_isa_atomics)] [.widerDeep, .widerDeep, .widerDeep, .widerDeep, .widerDeep] true :=
  Program.laidByTextLater.sub seatTie1 ["spindle/isa.arithmetic", "spindle/isa.compares", "spindle/isa.loads", "spindle/isa.stores", "spindle/isa.atomics"] (by kernel_rfl) (by kernel_rfl)
theorem tidyShapes_row_tie : Rows.tidyShapesRow.laidByTextAt .later Tryz.pinned [.widerDeep, .widerDeep, .widerDeep, .widerDeep, .widerDeep] true :=
  OpenClaim.laidByTextAt_later rfl rfl tie2 noOwnUnsafe
theorem tidyNeat_row_tie : Rows.tidyNeatRow.laidByTextAt .later Tryz.pinned [.widerDeep, .widerDeep, .widerDeep, .widerDeep, .widerDeep] true :=
  OpenClaim.laidByTextAt_later rfl rfl tie2 noOwnUnsafe
theorem tidyAgain_row_tie : Rows.tidyAgainRow.laidByTextAt .later Tryz.pinned [.widerDeep, .widerDeep, .widerDeep, .widerDeep, .widerDeep] true :=
  OpenClaim.laidByTextAt_later rfl rfl tie2 noOwnUnsafe
theorem disasmTellsUpto_row_tie : Rows.disasmTellsUptoRow.laidByTextAt .later Tryz.pinned [.data, .data, .data, .widerDeep, .widerDeep, .widerDeep, .widerDeep, .widerDeep, .data, .data, .data, .data] true :=
  OpenClaim.laidByTextAt_later rfl rfl tie noOwnUnsafe
theorem disasmOwnsUpto_row_tie : Rows.disasmOwnsUptoRow.laidByTextAt .later Tryz.pinned [.data, .data, .data, .widerDeep, .widerDeep, .widerDeep, .widerDeep, .widerDeep, .data, .data, .data, .data] true :=
  OpenClaim.laidByTextAt_later rfl rfl tie noOwnUnsafe
theorem tidyShapesUpto_row_tie : Rows.tidyShapesUptoRow.laidByTextAt .later Tryz.pinned [.widerDeep, .widerDeep, .widerDeep, .widerDeep, .widerDeep] true :=
  OpenClaim.laidByTextAt_later rfl rfl tie2 noOwnUnsafe
theorem tidyNeatUpto_row_tie : Rows.tidyNeatUptoRow.laidByTextAt .later Tryz.pinned [.widerDeep, .widerDeep, .widerDeep, .widerDeep, .widerDeep] true :=
  OpenClaim.laidByTextAt_later rfl rfl tie2 noOwnUnsafe
theorem tidyAgainUpto_row_tie : Rows.tidyAgainUptoRow.laidByTextAt .later Tryz.pinned [.widerDeep, .widerDeep, .widerDeep, .widerDeep, .widerDeep] true :=
  OpenClaim.laidByTextAt_later rfl rfl tie2 noOwnUnsafe
end Go.Proofs.YtbhdjfhhgnoiiaaGreatDoor
