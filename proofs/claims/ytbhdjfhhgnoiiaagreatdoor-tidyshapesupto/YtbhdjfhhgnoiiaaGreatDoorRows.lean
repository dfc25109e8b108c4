/-
  NARROWER THAN 'FOR EVERY INPUT', by the rows' own cells (each row's printed sentence says how): DisasmTells: laid · DisasmOwns: laid · TidyShapes: laid · TidyNeat: laid · TidyAgain: laid.
  DERIVED. THE GIVEN ROWS OF THIS SEAT. 5 by the template 'for every input the law returns true; each argument reads behind the call as it read before'; 0 by the template 'total and deterministic' (their statements: YtbhdjfhhgnoiiaaGreatDoorTotals.lean).
  GIVEN WITH THE SEED: the statements are not yours to turn. If you find one false, say at which input.
  Laid BY PROGRAM, IN A SANDBOX (cutbox-rows.mjs): the forced cells as the released guide's own fill.sh prints them over the translation cb5e64230cdcd347… (all of the seat's roots in one cut). By AI agents, Wed Nov 11 2026. No macro, syntax, notation, axiom, sorry.
-/
import Derived.Test.YtbhdjfhhgnoiiaaGreatDoorChecked
import GoSem.Claim
import GoSem.ClaimJoined
import GoSem.ClaimMapViews
import Derived.JoinedTies
import Derived.KernelRfl
namespace Go.Proofs.YtbhdjfhhgnoiiaaGreatDoor
/- THE CELL 'sum', in the pinned program and in every row, IS THE sha256 OF THE DUMP (.gsa) THAT YtbhdjfhhgnoiiaaGreatDoorProg.lean LOADS. Nothing in Lean hashes anything: it is a label: what it is worth is what the hold of that sum in a sandbox is worth. -/
noncomputable def Tryz.pinned : Pinned := { name := "ytbhdjfhhgnoiiaagreatdoor", sum := "cb5e64230cdcd3475fd344c3de0c922216d4722e2a95b402df0a7d3f6a3fc3d0", checked := Tryz.checked }
namespace Rows
def none {H : Type} : Left H := { results := [], args := [] }

/- WHAT THE LISTED PACKAGE-LEVEL VARIABLES READ AS WHEN THE CALL BEGINS. Each datum BY PROGRAM (the guide's laid-datum.mjs) off the statement by which the dump's own 'gosem.cut.vars' lays the variable. In a bare row this is a premise. The card (YtbhdjfhhgnoiiaaGreatDoorCards.lean) ties it to the program's text. -/
def laid_math_bits_deBruijn32tab {H : Type} : DataW H := .agg [.lit (.int .u8 0), .lit (.int .u8 1), .lit (.int .u8 28), .lit (.int .u8 2), .lit (.int .u8 29), .lit (.int .u8 14), .lit (.int .u8 24), .lit (.int .u8 3), .lit (.int .u8 30), .lit (.int .u8 22), .lit (.int .u8 20), .lit (.int .u8 15), .lit (.int .u8 25), .lit (.int .u8 17), .lit (.int .u8 4), .lit (.int .u8 8), .lit (.int .u8 31), .lit (.int .u8 27), .lit (.int .u8 13), .lit (.int .u8 23), .lit (.int .u8 21), .lit (.int .u8 19), .lit (.int .u8 16), .lit (.int .u8 7), .lit (.int .u8 26), .lit (.int .u8 12), .lit (.int .u8 18), .lit (.int .u8 6), .lit (.int .u8 11), .lit (.int .u8 5), .lit (.int .u8 10), .lit (.int .u8 9)]
def laid_math_bits_deBruijn64tab {H : Type} : DataW H := .agg [.lit (.int .u8 0), .lit (.int .u8 1), .lit (.int .u8 56), .lit (.int .u8 2), .lit (.int .u8 57), .lit (.int .u8 49), .lit (.int .u8 28), .lit (.int .u8 3), .lit (.int .u8 61), .lit (.int .u8 58), .lit (.int .u8 42), .lit (.int .u8 50), .lit (.int .u8 38), .lit (.int .u8 29), .lit (.int .u8 17), .lit (.int .u8 4), .lit (.int .u8 62), .lit (.int .u8 47), .lit (.int .u8 59), .lit (.int .u8 36), .lit (.int .u8 45), .lit (.int .u8 43), .lit (.int .u8 51), .lit (.int .u8 22), .lit (.int .u8 53), .lit (.int .u8 39), .lit (.int .u8 33), .lit (.int .u8 30), .lit (.int .u8 24), .lit (.int .u8 18), .lit (.int .u8 12), .lit (.int .u8 5), .lit (.int .u8 63), .lit (.int .u8 55), .lit (.int .u8 48), .lit (.int .u8 27), .lit (.int .u8 60), .lit (.int .u8 41), .lit (.int .u8 37), .lit (.int .u8 16), .lit (.int .u8 46), .lit (.int .u8 35), .lit (.int .u8 44), .lit (.int .u8 21), .lit (.int .u8 52), .lit (.int .u8 32), .lit (.int .u8 23), .lit (.int .u8 11), .lit (.int .u8 54), .lit (.int .u8 26), .lit (.int .u8 40), .lit (.int .u8 15), .lit (.int .u8 34), .lit (.int .u8 20), .lit (.int .u8 31), .lit (.int .u8 10), .lit (.int .u8 25), .lit (.int .u8 14), .lit (.int .u8 19), .lit (.int .u8 9), .lit (.int .u8 13), .lit (.int .u8 8), .lit (.int .u8 7), .lit (.int .u8 6)]
def laid_internal_strconv_uint64pow10 {H : Type} : DataW H := .agg [.lit (.int .u64 1), .lit (.int .u64 10), .lit (.int .u64 100), .lit (.int .u64 1000), .lit (.int .u64 10000), .lit (.int .u64 100000), .lit (.int .u64 1000000), .lit (.int .u64 10000000), .lit (.int .u64 100000000), .lit (.int .u64 1000000000), .lit (.int .u64 10000000000), .lit (.int .u64 100000000000), .lit (.int .u64 1000000000000), .lit (.int .u64 10000000000000), .lit (.int .u64 100000000000000), .lit (.int .u64 1000000000000000), .lit (.int .u64 10000000000000000), .lit (.int .u64 100000000000000000), .lit (.int .u64 1000000000000000000), .lit (.int .u64 10000000000000000000)]
def laid_spindle_isa_arithmetic {H : Type} : DataW H := .agg [.lit (.int .i64 0), .lit (.int .i64 16), .lit (.int .i64 32), .lit (.int .i64 48), .lit (.int .i64 64), .lit (.int .i64 80), .lit (.int .i64 96), .lit (.int .i64 112), .lit (.int .i64 144), .lit (.int .i64 160), .lit (.int .i64 176), .lit (.int .i64 192)]
def laid_spindle_isa_compares {H : Type} : DataW H := .agg [.lit (.int .i64 16), .lit (.int .i64 32), .lit (.int .i64 48), .lit (.int .i64 64), .lit (.int .i64 80), .lit (.int .i64 96), .lit (.int .i64 112), .lit (.int .i64 160), .lit (.int .i64 176), .lit (.int .i64 192), .lit (.int .i64 208)]
def laid_spindle_isa_loads {H : Type} : DataW H := .agg [.lit (.int .i64 113), .lit (.int .i64 105), .lit (.int .i64 97), .lit (.int .i64 121), .lit (.int .i64 145), .lit (.int .i64 137), .lit (.int .i64 129)]
def laid_spindle_isa_stores {H : Type} : DataW H := .agg [.lit (.int .i64 114), .lit (.int .i64 106), .lit (.int .i64 98), .lit (.int .i64 122), .lit (.int .i64 115), .lit (.int .i64 107), .lit (.int .i64 99), .lit (.int .i64 123)]
def laid_spindle_isa_atomics {H : Type} : DataW H := .agg [.lit (.int .i64 0), .lit (.int .i64 64), .lit (.int .i64 80), .lit (.int .i64 160), .lit (.int .i64 1), .lit (.int .i64 65), .lit (.int .i64 81), .lit (.int .i64 161), .lit (.int .i64 225), .lit (.int .i64 241)]
def laid_spindle_line_arithmetic {H : Type} : DataW H := .agg [.lit (.string [97, 100, 100]), .lit (.string [115, 117, 98]), .lit (.string [109, 117, 108]), .lit (.string [100, 105, 118]), .lit (.string [111, 114]), .lit (.string [97, 110, 100]), .lit (.string [108, 115, 104]), .lit (.string [114, 115, 104]), .lit (.string []), .lit (.string [109, 111, 100]), .lit (.string [120, 111, 114]), .lit (.string [109, 111, 118]), .lit (.string [97, 114, 115, 104])]
def laid_spindle_line_compares {H : Type} : DataW H := .agg [.lit (.string []), .lit (.string [106, 101, 113]), .lit (.string [106, 103, 116]), .lit (.string [106, 103, 101]), .lit (.string [106, 115, 101, 116]), .lit (.string [106, 110, 101]), .lit (.string [106, 115, 103, 116]), .lit (.string [106, 115, 103, 101]), .lit (.string []), .lit (.string []), .lit (.string [106, 108, 116]), .lit (.string [106, 108, 101]), .lit (.string [106, 115, 108, 116]), .lit (.string [106, 115, 108, 101])]
def laid_spindle_line_atomics {H : Type} : DataW H := .agg [.lit (.string [97, 97, 100, 100]), .lit (.string [97, 111, 114]), .lit (.string [97, 97, 110, 100]), .lit (.string [97, 120, 111, 114]), .lit (.string [97, 102, 97, 100, 100]), .lit (.string [97, 102, 111, 114]), .lit (.string [97, 102, 97, 110, 100]), .lit (.string [97, 102, 120, 111, 114]), .lit (.string [97, 120, 99, 104, 103]), .lit (.string [97, 99, 109, 112, 120, 99, 104, 103])]
def laid_spindle_line_atomicImms {H : Type} : DataW H := .agg [.lit (.int .i64 0), .lit (.int .i64 64), .lit (.int .i64 80), .lit (.int .i64 160), .lit (.int .i64 1), .lit (.int .i64 65), .lit (.int .i64 81), .lit (.int .i64 161), .lit (.int .i64 225), .lit (.int .i64 241)]

/-- 'spindlelaw14.DisasmTells': WHATEVER THE INPUT: true; the input reads as it did. -/
def disasmTellsSpec : ChangeSpec := { name := "disasmTells", fn := fun _ => fun
  | [d] => { results := [.lit (.bool true)], args := [d] }
  | _ => none }
def disasmTellsRow : OpenClaim := { program := "ytbhdjfhhgnoiiaagreatdoor", sum := "cb5e64230cdcd3475fd344c3de0c922216d4722e2a95b402df0a7d3f6a3fc3d0", func := "spindle/spindlelaw14.DisasmTells", spec := "disasmTells", inPlace := ["internal/abi.NoEscape"], unfollowed := true, recurses := true, named := ["spindle/isa.loads", "spindle/isa.stores", "spindle/isa.arithmetic", "spindle/isa.compares", "spindle/isa.atomics", "internal/strconv.uint64pow10", "math/bits.deBruijn32tab", "math/bits.deBruijn64tab", "spindle/line.arithmetic", "spindle/line.compares", "spindle/line.atomics", "spindle/line.atomicImms"], plainKeys := false, apart := false, laid := [("math/bits.deBruijn32tab", laid_math_bits_deBruijn32tab), ("math/bits.deBruijn64tab", laid_math_bits_deBruijn64tab), ("internal/strconv.uint64pow10", laid_internal_strconv_uint64pow10), ("spindle/isa.arithmetic", laid_spindle_isa_arithmetic), ("spindle/isa.compares", laid_spindle_isa_compares), ("spindle/isa.loads", laid_spindle_isa_loads), ("spindle/isa.stores", laid_spindle_isa_stores), ("spindle/isa.atomics", laid_spindle_isa_atomics), ("spindle/line.arithmetic", laid_spindle_line_arithmetic), ("spindle/line.compares", laid_spindle_line_compares), ("spindle/line.atomics", laid_spindle_line_atomics), ("spindle/line.atomicImms", laid_spindle_line_atomicImms)] }
def DisasmTellsSaid : Prop := disasmTellsRow.holds Tryz.pinned (OpenSpec.ofChange disasmTellsSpec)

/-- ITS FALSE NEIGHBOUR: 'it returns false'. Refute it at one input. -/
def disasmTellsWrong : ChangeSpec := { name := "disasmTells", fn := fun _ => fun
  | [d] => { results := [.lit (.bool false)], args := [d] }
  | _ => none }
def DisasmTellsWrongFalsely : Prop := disasmTellsRow.holds Tryz.pinned (OpenSpec.ofChange disasmTellsWrong)

/-- 'spindlelaw14.DisasmOwns': WHATEVER THE INPUT: true; the input reads as it did. -/
def disasmOwnsSpec : ChangeSpec := { name := "disasmOwns", fn := fun _ => fun
  | [d1, d2] => { results := [.lit (.bool true)], args := [d1, d2] }
  | _ => none }
def disasmOwnsRow : OpenClaim := { program := "ytbhdjfhhgnoiiaagreatdoor", sum := "cb5e64230cdcd3475fd344c3de0c922216d4722e2a95b402df0a7d3f6a3fc3d0", func := "spindle/spindlelaw14.DisasmOwns", spec := "disasmOwns", inPlace := ["internal/abi.NoEscape"], unfollowed := true, recurses := true, named := ["spindle/isa.loads", "spindle/isa.stores", "spindle/isa.arithmetic", "spindle/isa.compares", "spindle/isa.atomics", "internal/strconv.uint64pow10", "math/bits.deBruijn32tab", "math/bits.deBruijn64tab", "spindle/line.arithmetic", "spindle/line.compares", "spindle/line.atomics", "spindle/line.atomicImms"], plainKeys := false, apart := false, laid := [("math/bits.deBruijn32tab", laid_math_bits_deBruijn32tab), ("math/bits.deBruijn64tab", laid_math_bits_deBruijn64tab), ("internal/strconv.uint64pow10", laid_internal_strconv_uint64pow10), ("spindle/isa.arithmetic", laid_spindle_isa_arithmetic), ("spindle/isa.compares", laid_spindle_isa_compares), ("spindle/isa.loads", laid_spindle_isa_loads), ("spindle/isa.stores", laid_spindle_isa_stores), ("spindle/isa.atomics", laid_spindle_isa_atomics), ("spindle/line.arithmetic", laid_spindle_line_arithmetic), ("spindle/line.compares", laid_spindle_line_compares), ("spindle/line.atomics", laid_spindle_line_atomics), ("spindle/line.atomicImms", laid_spindle_line_atomicImms)] }
def DisasmOwnsSaid : Prop := disasmOwnsRow.holds Tryz.pinned (OpenSpec.ofChange disasmOwnsSpec)

/-- ITS FALSE NEIGHBOUR: 'it returns false'. Refute it at one input. -/
def disasmOwnsWrong : ChangeSpec := { name := "disasmOwns", fn := fun _ => fun
  | [d1, d2] => { results := [.lit (.bool false)], args := [d1, d2] }
  | _ => none }
def DisasmOwnsWrongFalsely : Prop := disasmOwnsRow.holds Tryz.pinned (OpenSpec.ofChange disasmOwnsWrong)

/-- 'spindlelaw24.TidyShapes': WHATEVER THE INPUT: true; the input reads as it did. -/
def tidyShapesSpec : ChangeSpec := { name := "tidyShapes", fn := fun _ => fun
  | [d] => { results := [.lit (.bool true)], args := [d] }
  | _ => none }
def tidyShapesRow : OpenClaim := { program := "ytbhdjfhhgnoiiaagreatdoor", sum := "cb5e64230cdcd3475fd344c3de0c922216d4722e2a95b402df0a7d3f6a3fc3d0", func := "spindle/spindlelaw24.TidyShapes", spec := "tidyShapes", inPlace := ["internal/bytealg.IndexByteString"], unfollowed := true, recurses := true, named := ["spindle/isa.loads", "spindle/isa.stores", "spindle/isa.arithmetic", "spindle/isa.compares", "spindle/isa.atomics"], plainKeys := false, apart := false, laid := [("spindle/isa.arithmetic", laid_spindle_isa_arithmetic), ("spindle/isa.compares", laid_spindle_isa_compares), ("spindle/isa.loads", laid_spindle_isa_loads), ("spindle/isa.stores", laid_spindle_isa_stores), ("spindle/isa.atomics", laid_spindle_isa_atomics)] }
def TidyShapesSaid : Prop := tidyShapesRow.holds Tryz.pinned (OpenSpec.ofChange tidyShapesSpec)

/-- ITS FALSE NEIGHBOUR: 'it returns false'. Refute it at one input. -/
def tidyShapesWrong : ChangeSpec := { name := "tidyShapes", fn := fun _ => fun
  | [d] => { results := [.lit (.bool false)], args := [d] }
  | _ => none }
def TidyShapesWrongFalsely : Prop := tidyShapesRow.holds Tryz.pinned (OpenSpec.ofChange tidyShapesWrong)

/-- 'spindlelaw24.TidyNeat': WHATEVER THE INPUT: true; the input reads as it did. -/
def tidyNeatSpec : ChangeSpec := { name := "tidyNeat", fn := fun _ => fun
  | [d] => { results := [.lit (.bool true)], args := [d] }
  | _ => none }
def tidyNeatRow : OpenClaim := { program := "ytbhdjfhhgnoiiaagreatdoor", sum := "cb5e64230cdcd3475fd344c3de0c922216d4722e2a95b402df0a7d3f6a3fc3d0", func := "spindle/spindlelaw24.TidyNeat", spec := "tidyNeat", inPlace := ["internal/bytealg.IndexByteString"], unfollowed := true, recurses := true, named := ["spindle/isa.loads", "spindle/isa.stores", "spindle/isa.arithmetic", "spindle/isa.compares", "spindle/isa.atomics"], plainKeys := false, apart := false, laid := [("spindle/isa.arithmetic", laid_spindle_isa_arithmetic), ("spindle/isa.compares", laid_spindle_isa_compares), ("spindle/isa.loads", laid_spindle_isa_loads), ("spindle/isa.stores", laid_spindle_isa_stores), ("spindle/isa.atomics", laid_spindle_isa_atomics)] }
def TidyNeatSaid : Prop := tidyNeatRow.holds Tryz.pinned (OpenSpec.ofChange tidyNeatSpec)

/-- ITS FALSE NEIGHBOUR: 'it returns false'. Refute it at one input. -/
def tidyNeatWrong : ChangeSpec := { name := "tidyNeat", fn := fun _ => fun
  | [d] => { results := [.lit (.bool false)], args := [d] }
  | _ => none }
def TidyNeatWrongFalsely : Prop := tidyNeatRow.holds Tryz.pinned (OpenSpec.ofChange tidyNeatWrong)

/-- 'spindlelaw24.TidyAgain': WHATEVER THE INPUT: true; the input reads as it did. -/
def tidyAgainSpec : ChangeSpec := { name := "tidyAgain", fn := fun _ => fun
  | [d] => { results := [.lit (.bool true)], args := [d] }
  | _ => none }
def tidyAgainRow : OpenClaim := { program := "ytbhdjfhhgnoiiaagreatdoor", sum := "cb5e64230cdcd3475fd344c3de0c922216d4722e2a95b402df0a7d3f6a3fc3d0", func := "spindle/spindlelaw24.TidyAgain", spec := "tidyAgain", inPlace := ["internal/bytealg.IndexByteString"], unfollowed := true, recurses := true, named := ["spindle/isa.loads", "spindle/isa.stores", "spindle/isa.arithmetic", "spindle/isa.compares", "spindle/isa.atomics"], plainKeys := false, apart := false, laid := [("spindle/isa.arithmetic", laid_spindle_isa_arithmetic), ("spindle/isa.compares", laid_spindle_isa_compares), ("spindle/isa.loads", laid_spindle_isa_loads), ("spindle/isa.stores", laid_spindle_isa_stores), ("spindle/isa.atomics", laid_spindle_isa_atomics)] }
def TidyAgainSaid : Prop := tidyAgainRow.holds Tryz.pinned (OpenSpec.ofChange tidyAgainSpec)

/-- ITS FALSE NEIGHBOUR: 'it returns false'. Refute it at one input. -/
def tidyAgainWrong : ChangeSpec := { name := "tidyAgain", fn := fun _ => fun
  | [d] => { results := [.lit (.bool false)], args := [d] }
  | _ => none }
def TidyAgainWrongFalsely : Prop := tidyAgainRow.holds Tryz.pinned (OpenSpec.ofChange tidyAgainWrong)

/- THE SECOND FORM. 'bulk': how many values and letters a reading holds, each counted each time it is reached (what is shared counts as often as it is met; a slice's spare places count too). A statement '..UptoSaid' is the law's where the arguments, and the package variables that the reading takes, are together of bulk at most 1048576: NARROWER than '..Said'. Prove '..Said' where nothing that the law and all that it calls make is longer than what came in: it says more and counts as full. Else prove '..UptoSaid'. A law counts once. -/
mutual
def uptoBulk {H : Type} : DataW H → Nat
  | .lit (.string bytes) => bytes.length + 1
  | .lit _ => 1
  | .nil => 1
  | .ptr d => uptoBulk d + 1
  | .slice elems spare => uptoBulkAll elems + uptoBulkAll spare + 1
  | .agg parts => uptoBulkAll parts + 1
  | .iface _ d => uptoBulk d + 1
  | .map entries => uptoBulkEntries entries + 1
  | .held _ => 1
def uptoBulkAll {H : Type} : List (DataW H) → Nat
  | [] => 0
  | d :: r => uptoBulk d + uptoBulkAll r
def uptoBulkEntries {H : Type} : List (Lit × DataW H) → Nat
  | [] => 0
  | x :: r => uptoBulkEntry x + uptoBulkEntries r
def uptoBulkEntry {H : Type} : Lit × DataW H → Nat
  | (.string bytes, d) => bytes.length + uptoBulk d + 1
  | (_, d) => uptoBulk d + 1
 end
def uptoSmall : (H : Type) → List (DataW H) → Bool := fun _ ds => decide (uptoBulkAll ds ≤ 1048576)
def OpenSpec.upto (s : _root_.Go.ChangeSpec) : _root_.Go.OpenSpec := { _root_.Go.OpenSpec.ofChange s with cond := some uptoSmall }

/-- 'spindlelaw14.DisasmTells', WHERE WHAT IT READS IS OF BULK AT MOST 1048576: true; the input reads as it did. -/
def disasmTellsUptoRow : OpenClaim := { program := "ytbhdjfhhgnoiiaagreatdoor", sum := "cb5e64230cdcd3475fd344c3de0c922216d4722e2a95b402df0a7d3f6a3fc3d0", func := "spindle/spindlelaw14.DisasmTells", spec := "disasmTells", inPlace := ["internal/abi.NoEscape"], unfollowed := true, recurses := true, named := ["spindle/isa.loads", "spindle/isa.stores", "spindle/isa.arithmetic", "spindle/isa.compares", "spindle/isa.atomics", "internal/strconv.uint64pow10", "math/bits.deBruijn32tab", "math/bits.deBruijn64tab", "spindle/line.arithmetic", "spindle/line.compares", "spindle/line.atomics", "spindle/line.atomicImms"], plainKeys := false, apart := false, laid := [("math/bits.deBruijn32tab", laid_math_bits_deBruijn32tab), ("math/bits.deBruijn64tab", laid_math_bits_deBruijn64tab), ("internal/strconv.uint64pow10", laid_internal_strconv_uint64pow10), ("spindle/isa.arithmetic", laid_spindle_isa_arithmetic), ("spindle/isa.compares", laid_spindle_isa_compares), ("spindle/isa.loads", laid_spindle_isa_loads), ("spindle/isa.stores", laid_spindle_isa_stores), ("spindle/isa.atomics", laid_spindle_isa_atomics), ("spindle/line.arithmetic", laid_spindle_line_arithmetic), ("spindle/line.compares", laid_spindle_line_compares), ("spindle/line.atomics", laid_spindle_line_atomics), ("spindle/line.atomicImms", laid_spindle_line_atomicImms)], narrowed := true }
def DisasmTellsUptoSaid : Prop := disasmTellsUptoRow.holds Tryz.pinned (OpenSpec.upto disasmTellsSpec)

/-- 'spindlelaw14.DisasmOwns', WHERE WHAT IT READS IS OF BULK AT MOST 1048576: true; the input reads as it did. -/
def disasmOwnsUptoRow : OpenClaim := { program := "ytbhdjfhhgnoiiaagreatdoor", sum := "cb5e64230cdcd3475fd344c3de0c922216d4722e2a95b402df0a7d3f6a3fc3d0", func := "spindle/spindlelaw14.DisasmOwns", spec := "disasmOwns", inPlace := ["internal/abi.NoEscape"], unfollowed := true, recurses := true, named := ["spindle/isa.loads", "spindle/isa.stores", "spindle/isa.arithmetic", "spindle/isa.compares", "spindle/isa.atomics", "internal/strconv.uint64pow10", "math/bits.deBruijn32tab", "math/bits.deBruijn64tab", "spindle/line.arithmetic", "spindle/line.compares", "spindle/line.atomics", "spindle/line.atomicImms"], plainKeys := false, apart := false, laid := [("math/bits.deBruijn32tab", laid_math_bits_deBruijn32tab), ("math/bits.deBruijn64tab", laid_math_bits_deBruijn64tab), ("internal/strconv.uint64pow10", laid_internal_strconv_uint64pow10), ("spindle/isa.arithmetic", laid_spindle_isa_arithmetic), ("spindle/isa.compares", laid_spindle_isa_compares), ("spindle/isa.loads", laid_spindle_isa_loads), ("spindle/isa.stores", laid_spindle_isa_stores), ("spindle/isa.atomics", laid_spindle_isa_atomics), ("spindle/line.arithmetic", laid_spindle_line_arithmetic), ("spindle/line.compares", laid_spindle_line_compares), ("spindle/line.atomics", laid_spindle_line_atomics), ("spindle/line.atomicImms", laid_spindle_line_atomicImms)], narrowed := true }
def DisasmOwnsUptoSaid : Prop := disasmOwnsUptoRow.holds Tryz.pinned (OpenSpec.upto disasmOwnsSpec)

/-- 'spindlelaw24.TidyShapes', WHERE WHAT IT READS IS OF BULK AT MOST 1048576: true; the input reads as it did. -/
def tidyShapesUptoRow : OpenClaim := { program := "ytbhdjfhhgnoiiaagreatdoor", sum := "cb5e64230cdcd3475fd344c3de0c922216d4722e2a95b402df0a7d3f6a3fc3d0", func := "spindle/spindlelaw24.TidyShapes", spec := "tidyShapes", inPlace := ["internal/bytealg.IndexByteString"], unfollowed := true, recurses := true, named := ["spindle/isa.loads", "spindle/isa.stores", "spindle/isa.arithmetic", "spindle/isa.compares", "spindle/isa.atomics"], plainKeys := false, apart := false, laid := [("spindle/isa.arithmetic", laid_spindle_isa_arithmetic), ("spindle/isa.compares", laid_spindle_isa_compares), ("spindle/isa.loads", laid_spindle_isa_loads), ("spindle/isa.stores", laid_spindle_isa_stores), ("spindle/isa.atomics", laid_spindle_isa_atomics)], narrowed := true }
def TidyShapesUptoSaid : Prop := tidyShapesUptoRow.holds Tryz.pinned (OpenSpec.upto tidyShapesSpec)

/-- 'spindlelaw24.TidyNeat', WHERE WHAT IT READS IS OF BULK AT MOST 1048576: true; the input reads as it did. -/
def tidyNeatUptoRow : OpenClaim := { program := "ytbhdjfhhgnoiiaagreatdoor", sum := "cb5e64230cdcd3475fd344c3de0c922216d4722e2a95b402df0a7d3f6a3fc3d0", func := "spindle/spindlelaw24.TidyNeat", spec := "tidyNeat", inPlace := ["internal/bytealg.IndexByteString"], unfollowed := true, recurses := true, named := ["spindle/isa.loads", "spindle/isa.stores", "spindle/isa.arithmetic", "spindle/isa.compares", "spindle/isa.atomics"], plainKeys := false, apart := false, laid := [("spindle/isa.arithmetic", laid_spindle_isa_arithmetic), ("spindle/isa.compares", laid_spindle_isa_compares), ("spindle/isa.loads", laid_spindle_isa_loads), ("spindle/isa.stores", laid_spindle_isa_stores), ("spindle/isa.atomics", laid_spindle_isa_atomics)], narrowed := true }
def TidyNeatUptoSaid : Prop := tidyNeatUptoRow.holds Tryz.pinned (OpenSpec.upto tidyNeatSpec)

/-- 'spindlelaw24.TidyAgain', WHERE WHAT IT READS IS OF BULK AT MOST 1048576: true; the input reads as it did. -/
def tidyAgainUptoRow : OpenClaim := { program := "ytbhdjfhhgnoiiaagreatdoor", sum := "cb5e64230cdcd3475fd344c3de0c922216d4722e2a95b402df0a7d3f6a3fc3d0", func := "spindle/spindlelaw24.TidyAgain", spec := "tidyAgain", inPlace := ["internal/bytealg.IndexByteString"], unfollowed := true, recurses := true, named := ["spindle/isa.loads", "spindle/isa.stores", "spindle/isa.arithmetic", "spindle/isa.compares", "spindle/isa.atomics"], plainKeys := false, apart := false, laid := [("spindle/isa.arithmetic", laid_spindle_isa_arithmetic), ("spindle/isa.compares", laid_spindle_isa_compares), ("spindle/isa.loads", laid_spindle_isa_loads), ("spindle/isa.stores", laid_spindle_isa_stores), ("spindle/isa.atomics", laid_spindle_isa_atomics)], narrowed := true }
def TidyAgainUptoSaid : Prop := tidyAgainUptoRow.holds Tryz.pinned (OpenSpec.upto tidyAgainSpec)

end Rows
end Go.Proofs.YtbhdjfhhgnoiiaaGreatDoor
