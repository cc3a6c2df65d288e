/-
  NARROWER THAN 'FOR EVERY INPUT', by the rows' own cells (each row's printed sentence says how): TyKnown: laid · TyMay: loops, laid · TyTexts: loops, laid · TyPutPut: loops, laid · TyCanons: loops, laid · TyPuts: loops, laid.
  DERIVED. THE GIVEN ROWS OF THIS SEAT. 6 by the template 'for every input the law returns true; each argument reads behind the call as it read before'; 0 by the template 'total and deterministic' (their statements: YtidamlkekgnhgaaDoorTotals.lean).
  GIVEN WITH THE SEED: the statements are not yours to turn. If you find one false, say at which input.
  Laid BY PROGRAM, IN A SANDBOX (cutbox-rows.mjs): the forced cells as the released guide's own fill.sh prints them over the translation 2871e2ebff76dfa4… (all of the seat's roots in one cut). By AI agents, Wed Nov 11 2026. No macro, syntax, notation, axiom, sorry.
-/
import Derived.Test.YtidamlkekgnhgaaDoorChecked
import GoSem.Claim
import GoSem.ClaimJoined
import GoSem.ClaimMapViews
import Derived.JoinedTies
import Derived.KernelRfl
namespace Go.Proofs.YtidamlkekgnhgaaDoor
/- THE CELL 'sum', in the pinned program and in every row, IS THE sha256 OF THE DUMP (.gsa) THAT YtidamlkekgnhgaaDoorProg.lean LOADS. Nothing in Lean hashes anything: it is a label: what it is worth is what the hold of that sum in a sandbox is worth. -/
noncomputable def Tryd.pinned : Pinned := { name := "ytidamlkekgnhgaadoor", sum := "2871e2ebff76dfa4408b0ac756c54f83e37b5d98575592b9e748045468347a9d", checked := Tryd.checked }
namespace Rows
def none {H : Type} : Left H := { results := [], args := [] }

/- WHAT THE LISTED PACKAGE-LEVEL VARIABLES READ AS WHEN THE CALL BEGINS. Each datum BY PROGRAM (the guide's laid-datum.mjs) off the statement by which the dump's own 'gosem.cut.vars' lays the variable. In a bare row this is a premise. The card (YtidamlkekgnhgaaDoorCards.lean) ties it to the program's text. -/
def laid_math_bits_deBruijn32tab {H : Type} : DataW H := .agg [.lit (.int .u8 0), .lit (.int .u8 1), .lit (.int .u8 28), .lit (.int .u8 2), .lit (.int .u8 29), .lit (.int .u8 14), .lit (.int .u8 24), .lit (.int .u8 3), .lit (.int .u8 30), .lit (.int .u8 22), .lit (.int .u8 20), .lit (.int .u8 15), .lit (.int .u8 25), .lit (.int .u8 17), .lit (.int .u8 4), .lit (.int .u8 8), .lit (.int .u8 31), .lit (.int .u8 27), .lit (.int .u8 13), .lit (.int .u8 23), .lit (.int .u8 21), .lit (.int .u8 19), .lit (.int .u8 16), .lit (.int .u8 7), .lit (.int .u8 26), .lit (.int .u8 12), .lit (.int .u8 18), .lit (.int .u8 6), .lit (.int .u8 11), .lit (.int .u8 5), .lit (.int .u8 10), .lit (.int .u8 9)]
def laid_math_bits_deBruijn64tab {H : Type} : DataW H := .agg [.lit (.int .u8 0), .lit (.int .u8 1), .lit (.int .u8 56), .lit (.int .u8 2), .lit (.int .u8 57), .lit (.int .u8 49), .lit (.int .u8 28), .lit (.int .u8 3), .lit (.int .u8 61), .lit (.int .u8 58), .lit (.int .u8 42), .lit (.int .u8 50), .lit (.int .u8 38), .lit (.int .u8 29), .lit (.int .u8 17), .lit (.int .u8 4), .lit (.int .u8 62), .lit (.int .u8 47), .lit (.int .u8 59), .lit (.int .u8 36), .lit (.int .u8 45), .lit (.int .u8 43), .lit (.int .u8 51), .lit (.int .u8 22), .lit (.int .u8 53), .lit (.int .u8 39), .lit (.int .u8 33), .lit (.int .u8 30), .lit (.int .u8 24), .lit (.int .u8 18), .lit (.int .u8 12), .lit (.int .u8 5), .lit (.int .u8 63), .lit (.int .u8 55), .lit (.int .u8 48), .lit (.int .u8 27), .lit (.int .u8 60), .lit (.int .u8 41), .lit (.int .u8 37), .lit (.int .u8 16), .lit (.int .u8 46), .lit (.int .u8 35), .lit (.int .u8 44), .lit (.int .u8 21), .lit (.int .u8 52), .lit (.int .u8 32), .lit (.int .u8 23), .lit (.int .u8 11), .lit (.int .u8 54), .lit (.int .u8 26), .lit (.int .u8 40), .lit (.int .u8 15), .lit (.int .u8 34), .lit (.int .u8 20), .lit (.int .u8 31), .lit (.int .u8 10), .lit (.int .u8 25), .lit (.int .u8 14), .lit (.int .u8 19), .lit (.int .u8 9), .lit (.int .u8 13), .lit (.int .u8 8), .lit (.int .u8 7), .lit (.int .u8 6)]
def laid_internal_strconv_uint64pow10 {H : Type} : DataW H := .agg [.lit (.int .u64 1), .lit (.int .u64 10), .lit (.int .u64 100), .lit (.int .u64 1000), .lit (.int .u64 10000), .lit (.int .u64 100000), .lit (.int .u64 1000000), .lit (.int .u64 10000000), .lit (.int .u64 100000000), .lit (.int .u64 1000000000), .lit (.int .u64 10000000000), .lit (.int .u64 100000000000), .lit (.int .u64 1000000000000), .lit (.int .u64 10000000000000), .lit (.int .u64 100000000000000), .lit (.int .u64 1000000000000000), .lit (.int .u64 10000000000000000), .lit (.int .u64 100000000000000000), .lit (.int .u64 1000000000000000000), .lit (.int .u64 10000000000000000000)]

/-- 'usufructlaw06.TyKnown': WHATEVER THE INPUT: true; the input reads as it did. -/
def tyKnownSpec : ChangeSpec := { name := "tyKnown", fn := fun _ => fun
  | [] => { results := [.lit (.bool true)], args := [] }
  | _ => none }
def tyKnownRow : OpenClaim := { program := "ytidamlkekgnhgaadoor", sum := "2871e2ebff76dfa4408b0ac756c54f83e37b5d98575592b9e748045468347a9d", func := "usufruct/usufructlaw06.TyKnown", spec := "tyKnown", inPlace := ["internal/abi.NoEscape"], unfollowed := true, recurses := true, named := ["internal/strconv.uint64pow10", "math/bits.deBruijn32tab", "math/bits.deBruijn64tab"], apart := false, laid := [("math/bits.deBruijn32tab", laid_math_bits_deBruijn32tab), ("math/bits.deBruijn64tab", laid_math_bits_deBruijn64tab), ("internal/strconv.uint64pow10", laid_internal_strconv_uint64pow10)] }
def TyKnownSaid : Prop := tyKnownRow.holds Tryd.pinned (OpenSpec.ofChange tyKnownSpec)

/-- ITS FALSE NEIGHBOUR: 'it returns false'. Refute it at one input. -/
def tyKnownWrong : ChangeSpec := { name := "tyKnown", fn := fun _ => fun
  | [] => { results := [.lit (.bool false)], args := [] }
  | _ => none }
def TyKnownWrongFalsely : Prop := tyKnownRow.holds Tryd.pinned (OpenSpec.ofChange tyKnownWrong)

/-- 'usufructlaw06.TyMay': WHATEVER THE INPUT: true; the input reads as it did. -/
def tyMaySpec : ChangeSpec := { name := "tyMay", fn := fun _ => fun
  | [d1, d2] => { results := [.lit (.bool true)], args := [d1, d2] }
  | _ => none }
def tyMayRow : OpenClaim := { program := "ytidamlkekgnhgaadoor", sum := "2871e2ebff76dfa4408b0ac756c54f83e37b5d98575592b9e748045468347a9d", func := "usufruct/usufructlaw06.TyMay", spec := "tyMay", inPlace := ["internal/abi.NoEscape"], unfollowed := true, recurses := true, named := ["internal/strconv.uint64pow10", "math/bits.deBruijn32tab", "math/bits.deBruijn64tab"], loops := true, apart := false, laid := [("math/bits.deBruijn32tab", laid_math_bits_deBruijn32tab), ("math/bits.deBruijn64tab", laid_math_bits_deBruijn64tab), ("internal/strconv.uint64pow10", laid_internal_strconv_uint64pow10)] }
def TyMaySaid : Prop := tyMayRow.holds Tryd.pinned (OpenSpec.ofChange tyMaySpec)

/-- ITS FALSE NEIGHBOUR: 'it returns false'. Refute it at one input. -/
def tyMayWrong : ChangeSpec := { name := "tyMay", fn := fun _ => fun
  | [d1, d2] => { results := [.lit (.bool false)], args := [d1, d2] }
  | _ => none }
def TyMayWrongFalsely : Prop := tyMayRow.holds Tryd.pinned (OpenSpec.ofChange tyMayWrong)

/-- 'usufructlaw06.TyTexts': WHATEVER THE INPUT: true; the input reads as it did. -/
def tyTextsSpec : ChangeSpec := { name := "tyTexts", fn := fun _ => fun
  | [d1, d2] => { results := [.lit (.bool true)], args := [d1, d2] }
  | _ => none }
def tyTextsRow : OpenClaim := { program := "ytidamlkekgnhgaadoor", sum := "2871e2ebff76dfa4408b0ac756c54f83e37b5d98575592b9e748045468347a9d", func := "usufruct/usufructlaw06.TyTexts", spec := "tyTexts", inPlace := ["internal/abi.NoEscape"], unfollowed := true, recurses := true, named := ["internal/strconv.uint64pow10", "math/bits.deBruijn32tab", "math/bits.deBruijn64tab"], loops := true, apart := false, laid := [("math/bits.deBruijn32tab", laid_math_bits_deBruijn32tab), ("math/bits.deBruijn64tab", laid_math_bits_deBruijn64tab), ("internal/strconv.uint64pow10", laid_internal_strconv_uint64pow10)] }
def TyTextsSaid : Prop := tyTextsRow.holds Tryd.pinned (OpenSpec.ofChange tyTextsSpec)

/-- ITS FALSE NEIGHBOUR: 'it returns false'. Refute it at one input. -/
def tyTextsWrong : ChangeSpec := { name := "tyTexts", fn := fun _ => fun
  | [d1, d2] => { results := [.lit (.bool false)], args := [d1, d2] }
  | _ => none }
def TyTextsWrongFalsely : Prop := tyTextsRow.holds Tryd.pinned (OpenSpec.ofChange tyTextsWrong)

/-- 'usufructlaw06.TyPutPut': WHATEVER THE INPUT: true; the input reads as it did. -/
def tyPutPutSpec : ChangeSpec := { name := "tyPutPut", fn := fun _ => fun
  | [d1, d2, d3, d4, d5] => { results := [.lit (.bool true)], args := [d1, d2, d3, d4, d5] }
  | _ => none }
def tyPutPutRow : OpenClaim := { program := "ytidamlkekgnhgaadoor", sum := "2871e2ebff76dfa4408b0ac756c54f83e37b5d98575592b9e748045468347a9d", func := "usufruct/usufructlaw06.TyPutPut", spec := "tyPutPut", inPlace := ["internal/abi.NoEscape"], unfollowed := true, recurses := true, named := ["internal/strconv.uint64pow10", "math/bits.deBruijn32tab", "math/bits.deBruijn64tab"], loops := true, apart := false, laid := [("math/bits.deBruijn32tab", laid_math_bits_deBruijn32tab), ("math/bits.deBruijn64tab", laid_math_bits_deBruijn64tab), ("internal/strconv.uint64pow10", laid_internal_strconv_uint64pow10)] }
def TyPutPutSaid : Prop := tyPutPutRow.holds Tryd.pinned (OpenSpec.ofChange tyPutPutSpec)

/-- ITS FALSE NEIGHBOUR: 'it returns false'. Refute it at one input. -/
def tyPutPutWrong : ChangeSpec := { name := "tyPutPut", fn := fun _ => fun
  | [d1, d2, d3, d4, d5] => { results := [.lit (.bool false)], args := [d1, d2, d3, d4, d5] }
  | _ => none }
def TyPutPutWrongFalsely : Prop := tyPutPutRow.holds Tryd.pinned (OpenSpec.ofChange tyPutPutWrong)

/-- 'usufructlaw06.TyCanons': WHATEVER THE INPUT: true; the input reads as it did. -/
def tyCanonsSpec : ChangeSpec := { name := "tyCanons", fn := fun _ => fun
  | [d1, d2] => { results := [.lit (.bool true)], args := [d1, d2] }
  | _ => none }
def tyCanonsRow : OpenClaim := { program := "ytidamlkekgnhgaadoor", sum := "2871e2ebff76dfa4408b0ac756c54f83e37b5d98575592b9e748045468347a9d", func := "usufruct/usufructlaw06.TyCanons", spec := "tyCanons", inPlace := ["internal/abi.NoEscape"], unfollowed := true, recurses := true, named := ["internal/strconv.uint64pow10", "math/bits.deBruijn32tab", "math/bits.deBruijn64tab"], loops := true, apart := false, laid := [("math/bits.deBruijn32tab", laid_math_bits_deBruijn32tab), ("math/bits.deBruijn64tab", laid_math_bits_deBruijn64tab), ("internal/strconv.uint64pow10", laid_internal_strconv_uint64pow10)] }
def TyCanonsSaid : Prop := tyCanonsRow.holds Tryd.pinned (OpenSpec.ofChange tyCanonsSpec)

/-- ITS FALSE NEIGHBOUR: 'it returns false'. Refute it at one input. -/
def tyCanonsWrong : ChangeSpec := { name := "tyCanons", fn := fun _ => fun
  | [d1, d2] => { results := [.lit (.bool false)], args := [d1, d2] }
  | _ => none }
def TyCanonsWrongFalsely : Prop := tyCanonsRow.holds Tryd.pinned (OpenSpec.ofChange tyCanonsWrong)

/-- 'usufructlaw06.TyPuts': WHATEVER THE INPUT: true; the input reads as it did. -/
def tyPutsSpec : ChangeSpec := { name := "tyPuts", fn := fun _ => fun
  | [d1, d2, d3, d4] => { results := [.lit (.bool true)], args := [d1, d2, d3, d4] }
  | _ => none }
def tyPutsRow : OpenClaim := { program := "ytidamlkekgnhgaadoor", sum := "2871e2ebff76dfa4408b0ac756c54f83e37b5d98575592b9e748045468347a9d", func := "usufruct/usufructlaw06.TyPuts", spec := "tyPuts", inPlace := ["internal/abi.NoEscape", "internal/bytealg.IndexByteString", "internal/bytealg.IndexString"], unfollowed := true, recurses := true, named := ["internal/strconv.uint64pow10", "math/bits.deBruijn32tab", "math/bits.deBruijn64tab", "internal/bytealg.MaxLen"], loops := true, apart := false, laid := [("math/bits.deBruijn32tab", laid_math_bits_deBruijn32tab), ("math/bits.deBruijn64tab", laid_math_bits_deBruijn64tab), ("internal/strconv.uint64pow10", laid_internal_strconv_uint64pow10)] }
def TyPutsSaid : Prop := tyPutsRow.holds Tryd.pinned (OpenSpec.ofChange tyPutsSpec)

/-- ITS FALSE NEIGHBOUR: 'it returns false'. Refute it at one input. -/
def tyPutsWrong : ChangeSpec := { name := "tyPuts", fn := fun _ => fun
  | [d1, d2, d3, d4] => { results := [.lit (.bool false)], args := [d1, d2, d3, d4] }
  | _ => none }
def TyPutsWrongFalsely : Prop := tyPutsRow.holds Tryd.pinned (OpenSpec.ofChange tyPutsWrong)

/- THE SECOND FORM. 'bulk': how many values and letters a reading holds, each counted each time it is reached (what is shared counts as often as it is met; a slice's spare places count too). A statement '..UptoSaid' is the law's where the arguments, and the package variables that the reading takes, are together of bulk at most 1048576: NARROWER than '..Said'. Prove '..Said' where nothing that the law and all that it calls make is longer than what came in: it says more and counts as full. Else prove '..UptoSaid'. A law counts once. -/
mutual
def uptoBulk {H : Type} : DataW H → Nat
  | .lit (.string bytes) => bytes.length + 1
  | .lit _ => 1
  | .nil => 1
  | .ptr d => uptoBulk d + 1
  | .slice elems spare => uptoBulkAll elems + uptoBulkAll spare + 1
  | .agg parts => uptoBulkAll parts + 1
  | .iface _ d => uptoBulk d + 1
  | .map entries => uptoBulkEntries entries + 1
  | .held _ => 1
def uptoBulkAll {H : Type} : List (DataW H) → Nat
  | [] => 0
  | d :: r => uptoBulk d + uptoBulkAll r
def uptoBulkEntries {H : Type} : List (Lit × DataW H) → Nat
  | [] => 0
  | x :: r => uptoBulkEntry x + uptoBulkEntries r
def uptoBulkEntry {H : Type} : Lit × DataW H → Nat
  | (.string bytes, d) => bytes.length + uptoBulk d + 1
  | (_, d) => uptoBulk d + 1
 end
def uptoSmall : (H : Type) → List (DataW H) → Bool := fun _ ds => decide (uptoBulkAll ds ≤ 1048576)
def OpenSpec.upto (s : _root_.Go.ChangeSpec) : _root_.Go.OpenSpec := { _root_.Go.OpenSpec.ofChange s with cond := some uptoSmall }

/-- 'usufructlaw06.TyKnown', WHERE WHAT IT READS IS OF BULK AT MOST 1048576: true; the input reads as it did. -/
def tyKnownUptoRow : OpenClaim := { program := "ytidamlkekgnhgaadoor", sum := "2871e2ebff76dfa4408b0ac756c54f83e37b5d98575592b9e748045468347a9d", func := "usufruct/usufructlaw06.TyKnown", spec := "tyKnown", inPlace := ["internal/abi.NoEscape"], unfollowed := true, recurses := true, named := ["internal/strconv.uint64pow10", "math/bits.deBruijn32tab", "math/bits.deBruijn64tab"], apart := false, laid := [("math/bits.deBruijn32tab", laid_math_bits_deBruijn32tab), ("math/bits.deBruijn64tab", laid_math_bits_deBruijn64tab), ("internal/strconv.uint64pow10", laid_internal_strconv_uint64pow10)], narrowed := true }
def TyKnownUptoSaid : Prop := tyKnownUptoRow.holds Tryd.pinned (OpenSpec.upto tyKnownSpec)

/-- 'usufructlaw06.TyMay', WHERE WHAT IT READS IS OF BULK AT MOST 1048576: true; the input reads as it did. -/
def tyMayUptoRow : OpenClaim := { program := "ytidamlkekgnhgaadoor", sum := "2871e2ebff76dfa4408b0ac756c54f83e37b5d98575592b9e748045468347a9d", func := "usufruct/usufructlaw06.TyMay", spec := "tyMay", inPlace := ["internal/abi.NoEscape"], unfollowed := true, recurses := true, named := ["internal/strconv.uint64pow10", "math/bits.deBruijn32tab", "math/bits.deBruijn64tab"], loops := true, apart := false, laid := [("math/bits.deBruijn32tab", laid_math_bits_deBruijn32tab), ("math/bits.deBruijn64tab", laid_math_bits_deBruijn64tab), ("internal/strconv.uint64pow10", laid_internal_strconv_uint64pow10)], narrowed := true }
def TyMayUptoSaid : Prop := tyMayUptoRow.holds Tryd.pinned (OpenSpec.upto tyMaySpec)

/-- 'usufructlaw06.TyTexts', WHERE WHAT IT READS IS OF BULK AT MOST 1048576: true; the input reads as it did. -/
def tyTextsUptoRow : OpenClaim := { program := "ytidamlkekgnhgaadoor", sum := "2871e2ebff76dfa4408b0ac756c54f83e37b5d98575592b9e748045468347a9d", func := "usufruct/usufructlaw06.TyTexts", spec := "tyTexts", inPlace := ["internal/abi.NoEscape"], unfollowed := true, recurses := true, named := ["internal/strconv.uint64pow10", "math/bits.deBruijn32tab", "math/bits.deBruijn64tab"], loops := true, apart := false, laid := [("math/bits.deBruijn32tab", laid_math_bits_deBruijn32tab), ("math/bits.deBruijn64tab", laid_math_bits_deBruijn64tab), ("internal/strconv.uint64pow10", laid_internal_strconv_uint64pow10)], narrowed := true }
def TyTextsUptoSaid : Prop := tyTextsUptoRow.holds Tryd.pinned (OpenSpec.upto tyTextsSpec)

/-- 'usufructlaw06.TyPutPut', WHERE WHAT IT READS IS OF BULK AT MOST 1048576: true; the input reads as it did. -/
def tyPutPutUptoRow : OpenClaim := { program := "ytidamlkekgnhgaadoor", sum := "2871e2ebff76dfa4408b0ac756c54f83e37b5d98575592b9e748045468347a9d", func := "usufruct/usufructlaw06.TyPutPut", spec := "tyPutPut", inPlace := ["internal/abi.NoEscape"], unfollowed := true, recurses := true, named := ["internal/strconv.uint64pow10", "math/bits.deBruijn32tab", "math/bits.deBruijn64tab"], loops := true, apart := false, laid := [("math/bits.deBruijn32tab", laid_math_bits_deBruijn32tab), ("math/bits.deBruijn64tab", laid_math_bits_deBruijn64tab), ("internal/strconv.uint64pow10", laid_internal_strconv_uint64pow10)], narrowed := true }
def TyPutPutUptoSaid : Prop := tyPutPutUptoRow.holds Tryd.pinned (OpenSpec.upto tyPutPutSpec)

/-- 'usufructlaw06.TyCanons', WHERE WHAT IT READS IS OF BULK AT MOST 1048576: true; the input reads as it did. -/
def tyCanonsUptoRow : OpenClaim := { program := "ytidamlkekgnhgaadoor", sum := "2871e2ebff76dfa4408b0ac756c54f83e37b5d98575592b9e748045468347a9d", func := "usufruct/usufructlaw06.TyCanons", spec := "tyCanons", inPlace := ["internal/abi.NoEscape"], unfollowed := true, recurses := true, named := ["internal/strconv.uint64pow10", "math/bits.deBruijn32tab", "math/bits.deBruijn64tab"], loops := true, apart := false, laid := [("math/bits.deBruijn32tab", laid_math_bits_deBruijn32tab), ("math/bits.deBruijn64tab", laid_math_bits_deBruijn64tab), ("internal/strconv.uint64pow10", laid_internal_strconv_uint64pow10)], narrowed := true }
def TyCanonsUptoSaid : Prop := tyCanonsUptoRow.holds Tryd.pinned (OpenSpec.upto tyCanonsSpec)

/-- 'usufructlaw06.TyPuts', WHERE WHAT IT READS IS OF BULK AT MOST 1048576: true; the input reads as it did. -/
def tyPutsUptoRow : OpenClaim := { program := "ytidamlkekgnhgaadoor", sum := "2871e2ebff76dfa4408b0ac756c54f83e37b5d98575592b9e748045468347a9d", func := "usufruct/usufructlaw06.TyPuts", spec := "tyPuts", inPlace := ["internal/abi.NoEscape", "internal/bytealg.IndexByteString", "internal/bytealg.IndexString"], unfollowed := true, recurses := true, named := ["internal/strconv.uint64pow10", "math/bits.deBruijn32tab", "math/bits.deBruijn64tab", "internal/bytealg.MaxLen"], loops := true, apart := false, laid := [("math/bits.deBruijn32tab", laid_math_bits_deBruijn32tab), ("math/bits.deBruijn64tab", laid_math_bits_deBruijn64tab), ("internal/strconv.uint64pow10", laid_internal_strconv_uint64pow10)], narrowed := true }
def TyPutsUptoSaid : Prop := tyPutsUptoRow.holds Tryd.pinned (OpenSpec.upto tyPutsSpec)

end Rows
end Go.Proofs.YtidamlkekgnhgaaDoor
