/-
  NARROWER THAN 'FOR EVERY INPUT', by the rows' own cells (each row's printed sentence says how): SchemeCloses: loops, laid · SchemePuts: loops, laid · SchemeSolves: loops, laid · SchemeKnown: laid · SchemeMores: loops, laid · SchemeOrder: loops, laid.
  DERIVED. THE GIVEN ROWS OF THIS SEAT. 6 by the template 'for every input the law returns true; each argument reads behind the call as it read before'; 0 by the template 'total and deterministic' (their statements: YtdmakpmbknindaaGreatDoorTotals.lean).
  GIVEN WITH THE SEED: the statements are not yours to turn. If you find one false, say at which input.
  Laid BY PROGRAM, IN A SANDBOX (cutbox-rows.mjs): the forced cells as the released guide's own fill.sh prints them over the translation a1f754183427264d… (all of the seat's roots in one cut). By AI agents, Wed Nov 11 2026. No macro, syntax, notation, axiom, sorry.
-/
import Derived.Test.YtdmakpmbknindaaGreatDoorChecked
import GoSem.Claim
import GoSem.ClaimJoined
import GoSem.ClaimMapViews
import Derived.JoinedTies
import Derived.KernelRfl
namespace Go.Proofs.YtdmakpmbknindaaGreatDoor
/- THE CELL 'sum', in the pinned program and in every row, IS THE sha256 OF THE DUMP (.gsa) THAT YtdmakpmbknindaaGreatDoorProg.lean LOADS. Nothing in Lean hashes anything: it is a label: what it is worth is what the hold of that sum in a sandbox is worth. -/
noncomputable def Tryz.pinned : Pinned := { name := "ytdmakpmbknindaagreatdoor", sum := "a1f754183427264d24f7e5b937ce5a3d534a1554b0f03089c8cd36160665170c", checked := Tryz.checked }
namespace Rows
def none {H : Type} : Left H := { results := [], args := [] }

/- WHAT THE LISTED PACKAGE-LEVEL VARIABLES READ AS WHEN THE CALL BEGINS. Each datum BY PROGRAM (the guide's laid-datum.mjs) off the statement by which the dump's own 'gosem.cut.vars' lays the variable. In a bare row this is a premise. The card (YtdmakpmbknindaaGreatDoorCards.lean) ties it to the program's text. -/
def laid_math_bits_deBruijn32tab {H : Type} : DataW H := .agg [.lit (.int .u8 0), .lit (.int .u8 1), .lit (.int .u8 28), .lit (.int .u8 2), .lit (.int .u8 29), .lit (.int .u8 14), .lit (.int .u8 24), .lit (.int .u8 3), .lit (.int .u8 30), .lit (.int .u8 22), .lit (.int .u8 20), .lit (.int .u8 15), .lit (.int .u8 25), .lit (.int .u8 17), .lit (.int .u8 4), .lit (.int .u8 8), .lit (.int .u8 31), .lit (.int .u8 27), .lit (.int .u8 13), .lit (.int .u8 23), .lit (.int .u8 21), .lit (.int .u8 19), .lit (.int .u8 16), .lit (.int .u8 7), .lit (.int .u8 26), .lit (.int .u8 12), .lit (.int .u8 18), .lit (.int .u8 6), .lit (.int .u8 11), .lit (.int .u8 5), .lit (.int .u8 10), .lit (.int .u8 9)]
def laid_math_bits_deBruijn64tab {H : Type} : DataW H := .agg [.lit (.int .u8 0), .lit (.int .u8 1), .lit (.int .u8 56), .lit (.int .u8 2), .lit (.int .u8 57), .lit (.int .u8 49), .lit (.int .u8 28), .lit (.int .u8 3), .lit (.int .u8 61), .lit (.int .u8 58), .lit (.int .u8 42), .lit (.int .u8 50), .lit (.int .u8 38), .lit (.int .u8 29), .lit (.int .u8 17), .lit (.int .u8 4), .lit (.int .u8 62), .lit (.int .u8 47), .lit (.int .u8 59), .lit (.int .u8 36), .lit (.int .u8 45), .lit (.int .u8 43), .lit (.int .u8 51), .lit (.int .u8 22), .lit (.int .u8 53), .lit (.int .u8 39), .lit (.int .u8 33), .lit (.int .u8 30), .lit (.int .u8 24), .lit (.int .u8 18), .lit (.int .u8 12), .lit (.int .u8 5), .lit (.int .u8 63), .lit (.int .u8 55), .lit (.int .u8 48), .lit (.int .u8 27), .lit (.int .u8 60), .lit (.int .u8 41), .lit (.int .u8 37), .lit (.int .u8 16), .lit (.int .u8 46), .lit (.int .u8 35), .lit (.int .u8 44), .lit (.int .u8 21), .lit (.int .u8 52), .lit (.int .u8 32), .lit (.int .u8 23), .lit (.int .u8 11), .lit (.int .u8 54), .lit (.int .u8 26), .lit (.int .u8 40), .lit (.int .u8 15), .lit (.int .u8 34), .lit (.int .u8 20), .lit (.int .u8 31), .lit (.int .u8 10), .lit (.int .u8 25), .lit (.int .u8 14), .lit (.int .u8 19), .lit (.int .u8 9), .lit (.int .u8 13), .lit (.int .u8 8), .lit (.int .u8 7), .lit (.int .u8 6)]
def laid_internal_strconv_uint64pow10 {H : Type} : DataW H := .agg [.lit (.int .u64 1), .lit (.int .u64 10), .lit (.int .u64 100), .lit (.int .u64 1000), .lit (.int .u64 10000), .lit (.int .u64 100000), .lit (.int .u64 1000000), .lit (.int .u64 10000000), .lit (.int .u64 100000000), .lit (.int .u64 1000000000), .lit (.int .u64 10000000000), .lit (.int .u64 100000000000), .lit (.int .u64 1000000000000), .lit (.int .u64 10000000000000), .lit (.int .u64 100000000000000), .lit (.int .u64 1000000000000000), .lit (.int .u64 10000000000000000), .lit (.int .u64 100000000000000000), .lit (.int .u64 1000000000000000000), .lit (.int .u64 10000000000000000000)]

/-- 'usufructlaw08.SchemeCloses': WHATEVER THE INPUT: true; the input reads as it did. -/
def schemeClosesSpec : ChangeSpec := { name := "schemeCloses", fn := fun _ => fun
  | [d1, d2, d3] => { results := [.lit (.bool true)], args := [d1, d2, d3] }
  | _ => none }
def schemeClosesRow : OpenClaim := { program := "ytdmakpmbknindaagreatdoor", sum := "a1f754183427264d24f7e5b937ce5a3d534a1554b0f03089c8cd36160665170c", func := "usufruct/usufructlaw08.SchemeCloses", spec := "schemeCloses", inPlace := ["internal/abi.NoEscape", "internal/bytealg.MakeNoZero"], unfollowed := true, recurses := true, named := ["internal/strconv.uint64pow10", "math/bits.deBruijn32tab", "math/bits.deBruijn64tab"], loops := true, apart := false, laid := [("math/bits.deBruijn32tab", laid_math_bits_deBruijn32tab), ("math/bits.deBruijn64tab", laid_math_bits_deBruijn64tab), ("internal/strconv.uint64pow10", laid_internal_strconv_uint64pow10)] }
def SchemeClosesSaid : Prop := schemeClosesRow.holds Tryz.pinned (OpenSpec.ofChange schemeClosesSpec)

/-- ITS FALSE NEIGHBOUR: 'it returns false'. Refute it at one input. -/
def schemeClosesWrong : ChangeSpec := { name := "schemeCloses", fn := fun _ => fun
  | [d1, d2, d3] => { results := [.lit (.bool false)], args := [d1, d2, d3] }
  | _ => none }
def SchemeClosesWrongFalsely : Prop := schemeClosesRow.holds Tryz.pinned (OpenSpec.ofChange schemeClosesWrong)

/-- 'usufructlaw08.SchemePuts': WHATEVER THE INPUT: true; the input reads as it did. -/
def schemePutsSpec : ChangeSpec := { name := "schemePuts", fn := fun _ => fun
  | [d1, d2, d3] => { results := [.lit (.bool true)], args := [d1, d2, d3] }
  | _ => none }
def schemePutsRow : OpenClaim := { program := "ytdmakpmbknindaagreatdoor", sum := "a1f754183427264d24f7e5b937ce5a3d534a1554b0f03089c8cd36160665170c", func := "usufruct/usufructlaw08.SchemePuts", spec := "schemePuts", inPlace := ["internal/abi.NoEscape", "internal/bytealg.MakeNoZero"], unfollowed := true, recurses := true, named := ["internal/strconv.uint64pow10", "math/bits.deBruijn32tab", "math/bits.deBruijn64tab"], loops := true, apart := false, laid := [("math/bits.deBruijn32tab", laid_math_bits_deBruijn32tab), ("math/bits.deBruijn64tab", laid_math_bits_deBruijn64tab), ("internal/strconv.uint64pow10", laid_internal_strconv_uint64pow10)] }
def SchemePutsSaid : Prop := schemePutsRow.holds Tryz.pinned (OpenSpec.ofChange schemePutsSpec)

/-- ITS FALSE NEIGHBOUR: 'it returns false'. Refute it at one input. -/
def schemePutsWrong : ChangeSpec := { name := "schemePuts", fn := fun _ => fun
  | [d1, d2, d3] => { results := [.lit (.bool false)], args := [d1, d2, d3] }
  | _ => none }
def SchemePutsWrongFalsely : Prop := schemePutsRow.holds Tryz.pinned (OpenSpec.ofChange schemePutsWrong)

/-- 'usufructlaw08.SchemeSolves': WHATEVER THE INPUT: true; the input reads as it did. -/
def schemeSolvesSpec : ChangeSpec := { name := "schemeSolves", fn := fun _ => fun
  | [d1, d2, d3, d4] => { results := [.lit (.bool true)], args := [d1, d2, d3, d4] }
  | _ => none }
def schemeSolvesRow : OpenClaim := { program := "ytdmakpmbknindaagreatdoor", sum := "a1f754183427264d24f7e5b937ce5a3d534a1554b0f03089c8cd36160665170c", func := "usufruct/usufructlaw08.SchemeSolves", spec := "schemeSolves", inPlace := ["internal/abi.NoEscape", "internal/bytealg.MakeNoZero"], unfollowed := true, recurses := true, named := ["internal/strconv.uint64pow10", "math/bits.deBruijn32tab", "math/bits.deBruijn64tab"], loops := true, apart := false, laid := [("math/bits.deBruijn32tab", laid_math_bits_deBruijn32tab), ("math/bits.deBruijn64tab", laid_math_bits_deBruijn64tab), ("internal/strconv.uint64pow10", laid_internal_strconv_uint64pow10)] }
def SchemeSolvesSaid : Prop := schemeSolvesRow.holds Tryz.pinned (OpenSpec.ofChange schemeSolvesSpec)

/-- ITS FALSE NEIGHBOUR: 'it returns false'. Refute it at one input. -/
def schemeSolvesWrong : ChangeSpec := { name := "schemeSolves", fn := fun _ => fun
  | [d1, d2, d3, d4] => { results := [.lit (.bool false)], args := [d1, d2, d3, d4] }
  | _ => none }
def SchemeSolvesWrongFalsely : Prop := schemeSolvesRow.holds Tryz.pinned (OpenSpec.ofChange schemeSolvesWrong)

/-- 'usufructlaw08.SchemeKnown': WHATEVER THE INPUT: true; the input reads as it did. -/
def schemeKnownSpec : ChangeSpec := { name := "schemeKnown", fn := fun _ => fun
  | [] => { results := [.lit (.bool true)], args := [] }
  | _ => none }
def schemeKnownRow : OpenClaim := { program := "ytdmakpmbknindaagreatdoor", sum := "a1f754183427264d24f7e5b937ce5a3d534a1554b0f03089c8cd36160665170c", func := "usufruct/usufructlaw08.SchemeKnown", spec := "schemeKnown", inPlace := ["internal/abi.NoEscape", "internal/bytealg.MakeNoZero"], unfollowed := true, recurses := true, named := ["internal/strconv.uint64pow10", "math/bits.deBruijn32tab", "math/bits.deBruijn64tab"], apart := false, laid := [("math/bits.deBruijn32tab", laid_math_bits_deBruijn32tab), ("math/bits.deBruijn64tab", laid_math_bits_deBruijn64tab), ("internal/strconv.uint64pow10", laid_internal_strconv_uint64pow10)] }
def SchemeKnownSaid : Prop := schemeKnownRow.holds Tryz.pinned (OpenSpec.ofChange schemeKnownSpec)

/-- ITS FALSE NEIGHBOUR: 'it returns false'. Refute it at one input. -/
def schemeKnownWrong : ChangeSpec := { name := "schemeKnown", fn := fun _ => fun
  | [] => { results := [.lit (.bool false)], args := [] }
  | _ => none }
def SchemeKnownWrongFalsely : Prop := schemeKnownRow.holds Tryz.pinned (OpenSpec.ofChange schemeKnownWrong)

/-- 'usufructlaw08.SchemeMores': WHATEVER THE INPUT: true; the input reads as it did. -/
def schemeMoresSpec : ChangeSpec := { name := "schemeMores", fn := fun _ => fun
  | [d1, d2] => { results := [.lit (.bool true)], args := [d1, d2] }
  | _ => none }
def schemeMoresRow : OpenClaim := { program := "ytdmakpmbknindaagreatdoor", sum := "a1f754183427264d24f7e5b937ce5a3d534a1554b0f03089c8cd36160665170c", func := "usufruct/usufructlaw08.SchemeMores", spec := "schemeMores", inPlace := ["internal/abi.NoEscape", "internal/bytealg.MakeNoZero"], unfollowed := true, recurses := true, named := ["internal/strconv.uint64pow10", "math/bits.deBruijn32tab", "math/bits.deBruijn64tab"], loops := true, apart := false, laid := [("math/bits.deBruijn32tab", laid_math_bits_deBruijn32tab), ("math/bits.deBruijn64tab", laid_math_bits_deBruijn64tab), ("internal/strconv.uint64pow10", laid_internal_strconv_uint64pow10)] }
def SchemeMoresSaid : Prop := schemeMoresRow.holds Tryz.pinned (OpenSpec.ofChange schemeMoresSpec)

/-- ITS FALSE NEIGHBOUR: 'it returns false'. Refute it at one input. -/
def schemeMoresWrong : ChangeSpec := { name := "schemeMores", fn := fun _ => fun
  | [d1, d2] => { results := [.lit (.bool false)], args := [d1, d2] }
  | _ => none }
def SchemeMoresWrongFalsely : Prop := schemeMoresRow.holds Tryz.pinned (OpenSpec.ofChange schemeMoresWrong)

/-- 'usufructlaw08.SchemeOrder': WHATEVER THE INPUT: true; the input reads as it did. -/
def schemeOrderSpec : ChangeSpec := { name := "schemeOrder", fn := fun _ => fun
  | [d1, d2, d3, d4] => { results := [.lit (.bool true)], args := [d1, d2, d3, d4] }
  | _ => none }
def schemeOrderRow : OpenClaim := { program := "ytdmakpmbknindaagreatdoor", sum := "a1f754183427264d24f7e5b937ce5a3d534a1554b0f03089c8cd36160665170c", func := "usufruct/usufructlaw08.SchemeOrder", spec := "schemeOrder", inPlace := ["internal/abi.NoEscape", "internal/bytealg.MakeNoZero"], unfollowed := true, recurses := true, named := ["internal/strconv.uint64pow10", "math/bits.deBruijn32tab", "math/bits.deBruijn64tab"], loops := true, apart := false, laid := [("math/bits.deBruijn32tab", laid_math_bits_deBruijn32tab), ("math/bits.deBruijn64tab", laid_math_bits_deBruijn64tab), ("internal/strconv.uint64pow10", laid_internal_strconv_uint64pow10)] }
def SchemeOrderSaid : Prop := schemeOrderRow.holds Tryz.pinned (OpenSpec.ofChange schemeOrderSpec)

/-- ITS FALSE NEIGHBOUR: 'it returns false'. Refute it at one input. -/
def schemeOrderWrong : ChangeSpec := { name := "schemeOrder", fn := fun _ => fun
  | [d1, d2, d3, d4] => { results := [.lit (.bool false)], args := [d1, d2, d3, d4] }
  | _ => none }
def SchemeOrderWrongFalsely : Prop := schemeOrderRow.holds Tryz.pinned (OpenSpec.ofChange schemeOrderWrong)

/- THE SECOND FORM. 'bulk': how many values and letters a reading holds, each counted each time it is reached (what is shared counts as often as it is met; a slice's spare places count too). A statement '..UptoSaid' is the law's where the arguments, and the package variables that the reading takes, are together of bulk at most 1048576: NARROWER than '..Said'. Prove '..Said' where nothing that the law and all that it calls make is longer than what came in: it says more and counts as full. Else prove '..UptoSaid'. A law counts once. -/
mutual
def uptoBulk {H : Type} : DataW H → Nat
  | .lit (.string bytes) => bytes.length + 1
  | .lit _ => 1
  | .nil => 1
  | .ptr d => uptoBulk d + 1
  | .slice elems spare => uptoBulkAll elems + uptoBulkAll spare + 1
  | .agg parts => uptoBulkAll parts + 1
  | .iface _ d => uptoBulk d + 1
  | .map entries => uptoBulkEntries entries + 1
  | .held _ => 1
def uptoBulkAll {H : Type} : List (DataW H) → Nat
  | [] => 0
  | d :: r => uptoBulk d + uptoBulkAll r
def uptoBulkEntries {H : Type} : List (Lit × DataW H) → Nat
  | [] => 0
  | x :: r => uptoBulkEntry x + uptoBulkEntries r
def uptoBulkEntry {H : Type} : Lit × DataW H → Nat
  | (.string bytes, d) => bytes.length + uptoBulk d + 1
  | (_, d) => uptoBulk d + 1
 end
def uptoSmall : (H : Type) → List (DataW H) → Bool := fun _ ds => decide (uptoBulkAll ds ≤ 1048576)
def OpenSpec.upto (s : _root_.Go.ChangeSpec) : _root_.Go.OpenSpec := { _root_.Go.OpenSpec.ofChange s with cond := some uptoSmall }

/-- 'usufructlaw08.SchemeCloses', WHERE WHAT IT READS IS OF BULK AT MOST 1048576: true; the input reads as it did. -/
def schemeClosesUptoRow : OpenClaim := { program := "ytdmakpmbknindaagreatdoor", sum := "a1f754183427264d24f7e5b937ce5a3d534a1554b0f03089c8cd36160665170c", func := "usufruct/usufructlaw08.SchemeCloses", spec := "schemeCloses", inPlace := ["internal/abi.NoEscape", "internal/bytealg.MakeNoZero"], unfollowed := true, recurses := true, named := ["internal/strconv.uint64pow10", "math/bits.deBruijn32tab", "math/bits.deBruijn64tab"], loops := true, apart := false, laid := [("math/bits.deBruijn32tab", laid_math_bits_deBruijn32tab), ("math/bits.deBruijn64tab", laid_math_bits_deBruijn64tab), ("internal/strconv.uint64pow10", laid_internal_strconv_uint64pow10)], narrowed := true }
def SchemeClosesUptoSaid : Prop := schemeClosesUptoRow.holds Tryz.pinned (OpenSpec.upto schemeClosesSpec)

/-- 'usufructlaw08.SchemePuts', WHERE WHAT IT READS IS OF BULK AT MOST 1048576: true; the input reads as it did. -/
def schemePutsUptoRow : OpenClaim := { program := "ytdmakpmbknindaagreatdoor", sum := "a1f754183427264d24f7e5b937ce5a3d534a1554b0f03089c8cd36160665170c", func := "usufruct/usufructlaw08.SchemePuts", spec := "schemePuts", inPlace := ["internal/abi.NoEscape", "internal/bytealg.MakeNoZero"], unfollowed := true, recurses := true, named := ["internal/strconv.uint64pow10", "math/bits.deBruijn32tab", "math/bits.deBruijn64tab"], loops := true, apart := false, laid := [("math/bits.deBruijn32tab", laid_math_bits_deBruijn32tab), ("math/bits.deBruijn64tab", laid_math_bits_deBruijn64tab), ("internal/strconv.uint64pow10", laid_internal_strconv_uint64pow10)], narrowed := true }
def SchemePutsUptoSaid : Prop := schemePutsUptoRow.holds Tryz.pinned (OpenSpec.upto schemePutsSpec)

/-- 'usufructlaw08.SchemeSolves', WHERE WHAT IT READS IS OF BULK AT MOST 1048576: true; the input reads as it did. -/
def schemeSolvesUptoRow : OpenClaim := { program := "ytdmakpmbknindaagreatdoor", sum := "a1f754183427264d24f7e5b937ce5a3d534a1554b0f03089c8cd36160665170c", func := "usufruct/usufructlaw08.SchemeSolves", spec := "schemeSolves", inPlace := ["internal/abi.NoEscape", "internal/bytealg.MakeNoZero"], unfollowed := true, recurses := true, named := ["internal/strconv.uint64pow10", "math/bits.deBruijn32tab", "math/bits.deBruijn64tab"], loops := true, apart := false, laid := [("math/bits.deBruijn32tab", laid_math_bits_deBruijn32tab), ("math/bits.deBruijn64tab", laid_math_bits_deBruijn64tab), ("internal/strconv.uint64pow10", laid_internal_strconv_uint64pow10)], narrowed := true }
def SchemeSolvesUptoSaid : Prop := schemeSolvesUptoRow.holds Tryz.pinned (OpenSpec.upto schemeSolvesSpec)

/-- 'usufructlaw08.SchemeKnown', WHERE WHAT IT READS IS OF BULK AT MOST 1048576: true; the input reads as it did. -/
def schemeKnownUptoRow : OpenClaim := { program := "ytdmakpmbknindaagreatdoor", sum := "a1f754183427264d24f7e5b937ce5a3d534a1554b0f03089c8cd36160665170c", func := "usufruct/usufructlaw08.SchemeKnown", spec := "schemeKnown", inPlace := ["internal/abi.NoEscape", "internal/bytealg.MakeNoZero"], unfollowed := true, recurses := true, named := ["internal/strconv.uint64pow10", "math/bits.deBruijn32tab", "math/bits.deBruijn64tab"], apart := false, laid := [("math/bits.deBruijn32tab", laid_math_bits_deBruijn32tab), ("math/bits.deBruijn64tab", laid_math_bits_deBruijn64tab), ("internal/strconv.uint64pow10", laid_internal_strconv_uint64pow10)], narrowed := true }
def SchemeKnownUptoSaid : Prop := schemeKnownUptoRow.holds Tryz.pinned (OpenSpec.upto schemeKnownSpec)

/-- 'usufructlaw08.SchemeMores', WHERE WHAT IT READS IS OF BULK AT MOST 1048576: true; the input reads as it did. -/
def schemeMoresUptoRow : OpenClaim := { program := "ytdmakpmbknindaagreatdoor", sum := "a1f754183427264d24f7e5b937ce5a3d534a1554b0f03089c8cd36160665170c", func := "usufruct/usufructlaw08.SchemeMores", spec := "schemeMores", inPlace := ["internal/abi.NoEscape", "internal/bytealg.MakeNoZero"], unfollowed := true, recurses := true, named := ["internal/strconv.uint64pow10", "math/bits.deBruijn32tab", "math/bits.deBruijn64tab"], loops := true, apart := false, laid := [("math/bits.deBruijn32tab", laid_math_bits_deBruijn32tab), ("math/bits.deBruijn64tab", laid_math_bits_deBruijn64tab), ("internal/strconv.uint64pow10", laid_internal_strconv_uint64pow10)], narrowed := true }
def SchemeMoresUptoSaid : Prop := schemeMoresUptoRow.holds Tryz.pinned (OpenSpec.upto schemeMoresSpec)

/-- 'usufructlaw08.SchemeOrder', WHERE WHAT IT READS IS OF BULK AT MOST 1048576: true; the input reads as it did. -/
def schemeOrderUptoRow : OpenClaim := { program := "ytdmakpmbknindaagreatdoor", sum := "a1f754183427264d24f7e5b937ce5a3d534a1554b0f03089c8cd36160665170c", func := "usufruct/usufructlaw08.SchemeOrder", spec := "schemeOrder", inPlace := ["internal/abi.NoEscape", "internal/bytealg.MakeNoZero"], unfollowed := true, recurses := true, named := ["internal/strconv.uint64pow10", "math/bits.deBruijn32tab", "math/bits.deBruijn64tab"], loops := true, apart := false, laid := [("math/bits.deBruijn32tab", laid_math_bits_deBruijn32tab), ("math/bits.deBruijn64tab", laid_math_bits_deBruijn64tab), ("internal/strconv.uint64pow10", laid_internal_strconv_uint64pow10)], narrowed := true }
def SchemeOrderUptoSaid : Prop := schemeOrderUptoRow.holds Tryz.pinned (OpenSpec.upto schemeOrderSpec)

end Rows
end Go.Proofs.YtdmakpmbknindaaGreatDoor
