/-
  NARROWER THAN 'FOR EVERY INPUT', by the rows' own cells (each row's printed sentence says how): IneqKnown: laid · IneqHolds: laid · IneqFits: laid · IneqOrder: laid · IneqTexts: laid · IneqMeans: laid · TermKnown: laid · TermOps: laid · TermCloses: laid.
  DERIVED. THE GIVEN ROWS OF THIS SEAT. 9 by the template 'for every input the law returns true; each argument reads behind the call as it read before'; 0 by the template 'total and deterministic' (their statements: YtbccnfgceabopaaDoorTotals.lean).
  GIVEN WITH THE SEED: the statements are not yours to turn. If you find one false, say at which input.
  Laid BY PROGRAM, IN A SANDBOX (cutbox-rows.mjs): the forced cells as the released guide's own fill.sh prints them over the translation 4e9d49d09e59fc38… (all of the seat's roots in one cut). By AI agents, Wed Nov 11 2026. No macro, syntax, notation, axiom, sorry.
-/
import Derived.Test.YtbccnfgceabopaaDoorChecked
import GoSem.Claim
import GoSem.ClaimJoined
import GoSem.ClaimMapViews
import Derived.JoinedTies
import Derived.KernelRfl
namespace Go.Proofs.YtbccnfgceabopaaDoor
/- THE CELL 'sum', in the pinned program and in every row, IS THE sha256 OF THE DUMP (.gsa) THAT YtbccnfgceabopaaDoorProg.lean LOADS. Nothing in Lean hashes anything: it is a label: what it is worth is what the hold of that sum in a sandbox is worth. -/
noncomputable def Tryd.pinned : Pinned := { name := "ytbccnfgceabopaadoor", sum := "4e9d49d09e59fc38b24366f97049ef7be742769f650db88c94a9c14353a35684", checked := Tryd.checked }
namespace Rows
def none {H : Type} : Left H := { results := [], args := [] }

/- WHAT THE LISTED PACKAGE-LEVEL VARIABLES READ AS WHEN THE CALL BEGINS. Each datum BY PROGRAM (the guide's laid-datum.mjs) off the statement by which the dump's own 'gosem.cut.vars' lays the variable. In a bare row this is a premise. The card (YtbccnfgceabopaaDoorCards.lean) ties it to the program's text. -/
def laid_math_bits_deBruijn32tab {H : Type} : DataW H := .agg [.lit (.int .u8 0), .lit (.int .u8 1), .lit (.int .u8 28), .lit (.int .u8 2), .lit (.int .u8 29), .lit (.int .u8 14), .lit (.int .u8 24), .lit (.int .u8 3), .lit (.int .u8 30), .lit (.int .u8 22), .lit (.int .u8 20), .lit (.int .u8 15), .lit (.int .u8 25), .lit (.int .u8 17), .lit (.int .u8 4), .lit (.int .u8 8), .lit (.int .u8 31), .lit (.int .u8 27), .lit (.int .u8 13), .lit (.int .u8 23), .lit (.int .u8 21), .lit (.int .u8 19), .lit (.int .u8 16), .lit (.int .u8 7), .lit (.int .u8 26), .lit (.int .u8 12), .lit (.int .u8 18), .lit (.int .u8 6), .lit (.int .u8 11), .lit (.int .u8 5), .lit (.int .u8 10), .lit (.int .u8 9)]
def laid_math_bits_deBruijn64tab {H : Type} : DataW H := .agg [.lit (.int .u8 0), .lit (.int .u8 1), .lit (.int .u8 56), .lit (.int .u8 2), .lit (.int .u8 57), .lit (.int .u8 49), .lit (.int .u8 28), .lit (.int .u8 3), .lit (.int .u8 61), .lit (.int .u8 58), .lit (.int .u8 42), .lit (.int .u8 50), .lit (.int .u8 38), .lit (.int .u8 29), .lit (.int .u8 17), .lit (.int .u8 4), .lit (.int .u8 62), .lit (.int .u8 47), .lit (.int .u8 59), .lit (.int .u8 36), .lit (.int .u8 45), .lit (.int .u8 43), .lit (.int .u8 51), .lit (.int .u8 22), .lit (.int .u8 53), .lit (.int .u8 39), .lit (.int .u8 33), .lit (.int .u8 30), .lit (.int .u8 24), .lit (.int .u8 18), .lit (.int .u8 12), .lit (.int .u8 5), .lit (.int .u8 63), .lit (.int .u8 55), .lit (.int .u8 48), .lit (.int .u8 27), .lit (.int .u8 60), .lit (.int .u8 41), .lit (.int .u8 37), .lit (.int .u8 16), .lit (.int .u8 46), .lit (.int .u8 35), .lit (.int .u8 44), .lit (.int .u8 21), .lit (.int .u8 52), .lit (.int .u8 32), .lit (.int .u8 23), .lit (.int .u8 11), .lit (.int .u8 54), .lit (.int .u8 26), .lit (.int .u8 40), .lit (.int .u8 15), .lit (.int .u8 34), .lit (.int .u8 20), .lit (.int .u8 31), .lit (.int .u8 10), .lit (.int .u8 25), .lit (.int .u8 14), .lit (.int .u8 19), .lit (.int .u8 9), .lit (.int .u8 13), .lit (.int .u8 8), .lit (.int .u8 7), .lit (.int .u8 6)]
def laid_internal_strconv_uint64pow10 {H : Type} : DataW H := .agg [.lit (.int .u64 1), .lit (.int .u64 10), .lit (.int .u64 100), .lit (.int .u64 1000), .lit (.int .u64 10000), .lit (.int .u64 100000), .lit (.int .u64 1000000), .lit (.int .u64 10000000), .lit (.int .u64 100000000), .lit (.int .u64 1000000000), .lit (.int .u64 10000000000), .lit (.int .u64 100000000000), .lit (.int .u64 1000000000000), .lit (.int .u64 10000000000000), .lit (.int .u64 100000000000000), .lit (.int .u64 1000000000000000), .lit (.int .u64 10000000000000000), .lit (.int .u64 100000000000000000), .lit (.int .u64 1000000000000000000), .lit (.int .u64 10000000000000000000)]

/-- 'usufructlaw03.IneqKnown': WHATEVER THE INPUT: true; the input reads as it did. -/
def ineqKnownSpec : ChangeSpec := { name := "ineqKnown", fn := fun _ => fun
  | [] => { results := [.lit (.bool true)], args := [] }
  | _ => none }
def ineqKnownRow : OpenClaim := { program := "ytbccnfgceabopaadoor", sum := "4e9d49d09e59fc38b24366f97049ef7be742769f650db88c94a9c14353a35684", func := "usufruct/usufructlaw03.IneqKnown", spec := "ineqKnown", inPlace := ["internal/abi.NoEscape", "internal/bytealg.MakeNoZero"], unfollowed := true, recurses := true, named := ["internal/strconv.uint64pow10", "math/bits.deBruijn32tab", "math/bits.deBruijn64tab"], apart := false, laid := [("math/bits.deBruijn32tab", laid_math_bits_deBruijn32tab), ("math/bits.deBruijn64tab", laid_math_bits_deBruijn64tab), ("internal/strconv.uint64pow10", laid_internal_strconv_uint64pow10)] }
def IneqKnownSaid : Prop := ineqKnownRow.holds Tryd.pinned (OpenSpec.ofChange ineqKnownSpec)

/-- ITS FALSE NEIGHBOUR: 'it returns false'. Refute it at one input. -/
def ineqKnownWrong : ChangeSpec := { name := "ineqKnown", fn := fun _ => fun
  | [] => { results := [.lit (.bool false)], args := [] }
  | _ => none }
def IneqKnownWrongFalsely : Prop := ineqKnownRow.holds Tryd.pinned (OpenSpec.ofChange ineqKnownWrong)

/-- 'usufructlaw03.IneqHolds': WHATEVER THE INPUT: true; the input reads as it did. -/
def ineqHoldsSpec : ChangeSpec := { name := "ineqHolds", fn := fun _ => fun
  | [d1, d2] => { results := [.lit (.bool true)], args := [d1, d2] }
  | _ => none }
def ineqHoldsRow : OpenClaim := { program := "ytbccnfgceabopaadoor", sum := "4e9d49d09e59fc38b24366f97049ef7be742769f650db88c94a9c14353a35684", func := "usufruct/usufructlaw03.IneqHolds", spec := "ineqHolds", inPlace := ["internal/abi.NoEscape", "internal/bytealg.MakeNoZero"], unfollowed := true, recurses := true, named := ["internal/strconv.uint64pow10", "math/bits.deBruijn32tab", "math/bits.deBruijn64tab"], apart := false, laid := [("math/bits.deBruijn32tab", laid_math_bits_deBruijn32tab), ("math/bits.deBruijn64tab", laid_math_bits_deBruijn64tab), ("internal/strconv.uint64pow10", laid_internal_strconv_uint64pow10)] }
def IneqHoldsSaid : Prop := ineqHoldsRow.holds Tryd.pinned (OpenSpec.ofChange ineqHoldsSpec)

/-- ITS FALSE NEIGHBOUR: 'it returns false'. Refute it at one input. -/
def ineqHoldsWrong : ChangeSpec := { name := "ineqHolds", fn := fun _ => fun
  | [d1, d2] => { results := [.lit (.bool false)], args := [d1, d2] }
  | _ => none }
def IneqHoldsWrongFalsely : Prop := ineqHoldsRow.holds Tryd.pinned (OpenSpec.ofChange ineqHoldsWrong)

/-- 'usufructlaw03.IneqFits': WHATEVER THE INPUT: true; the input reads as it did. -/
def ineqFitsSpec : ChangeSpec := { name := "ineqFits", fn := fun _ => fun
  | [d1, d2, d3] => { results := [.lit (.bool true)], args := [d1, d2, d3] }
  | _ => none }
def ineqFitsRow : OpenClaim := { program := "ytbccnfgceabopaadoor", sum := "4e9d49d09e59fc38b24366f97049ef7be742769f650db88c94a9c14353a35684", func := "usufruct/usufructlaw03.IneqFits", spec := "ineqFits", inPlace := ["internal/abi.NoEscape", "internal/bytealg.MakeNoZero"], unfollowed := true, recurses := true, named := ["internal/strconv.uint64pow10", "math/bits.deBruijn32tab", "math/bits.deBruijn64tab"], apart := false, laid := [("math/bits.deBruijn32tab", laid_math_bits_deBruijn32tab), ("math/bits.deBruijn64tab", laid_math_bits_deBruijn64tab), ("internal/strconv.uint64pow10", laid_internal_strconv_uint64pow10)] }
def IneqFitsSaid : Prop := ineqFitsRow.holds Tryd.pinned (OpenSpec.ofChange ineqFitsSpec)

/-- ITS FALSE NEIGHBOUR: 'it returns false'. Refute it at one input. -/
def ineqFitsWrong : ChangeSpec := { name := "ineqFits", fn := fun _ => fun
  | [d1, d2, d3] => { results := [.lit (.bool false)], args := [d1, d2, d3] }
  | _ => none }
def IneqFitsWrongFalsely : Prop := ineqFitsRow.holds Tryd.pinned (OpenSpec.ofChange ineqFitsWrong)

/-- 'usufructlaw03.IneqOrder': WHATEVER THE INPUT: true; the input reads as it did. -/
def ineqOrderSpec : ChangeSpec := { name := "ineqOrder", fn := fun _ => fun
  | [d1, d2, d3, d4, d5] => { results := [.lit (.bool true)], args := [d1, d2, d3, d4, d5] }
  | _ => none }
def ineqOrderRow : OpenClaim := { program := "ytbccnfgceabopaadoor", sum := "4e9d49d09e59fc38b24366f97049ef7be742769f650db88c94a9c14353a35684", func := "usufruct/usufructlaw03.IneqOrder", spec := "ineqOrder", inPlace := ["internal/abi.NoEscape", "internal/bytealg.MakeNoZero"], unfollowed := true, recurses := true, named := ["internal/strconv.uint64pow10", "math/bits.deBruijn32tab", "math/bits.deBruijn64tab"], apart := false, laid := [("math/bits.deBruijn32tab", laid_math_bits_deBruijn32tab), ("math/bits.deBruijn64tab", laid_math_bits_deBruijn64tab), ("internal/strconv.uint64pow10", laid_internal_strconv_uint64pow10)] }
def IneqOrderSaid : Prop := ineqOrderRow.holds Tryd.pinned (OpenSpec.ofChange ineqOrderSpec)

/-- ITS FALSE NEIGHBOUR: 'it returns false'. Refute it at one input. -/
def ineqOrderWrong : ChangeSpec := { name := "ineqOrder", fn := fun _ => fun
  | [d1, d2, d3, d4, d5] => { results := [.lit (.bool false)], args := [d1, d2, d3, d4, d5] }
  | _ => none }
def IneqOrderWrongFalsely : Prop := ineqOrderRow.holds Tryd.pinned (OpenSpec.ofChange ineqOrderWrong)

/-- 'usufructlaw03.IneqTexts': WHATEVER THE INPUT: true; the input reads as it did. -/
def ineqTextsSpec : ChangeSpec := { name := "ineqTexts", fn := fun _ => fun
  | [d1, d2] => { results := [.lit (.bool true)], args := [d1, d2] }
  | _ => none }
def ineqTextsRow : OpenClaim := { program := "ytbccnfgceabopaadoor", sum := "4e9d49d09e59fc38b24366f97049ef7be742769f650db88c94a9c14353a35684", func := "usufruct/usufructlaw03.IneqTexts", spec := "ineqTexts", inPlace := ["internal/abi.NoEscape", "internal/bytealg.MakeNoZero"], unfollowed := true, recurses := true, named := ["internal/strconv.uint64pow10", "math/bits.deBruijn32tab", "math/bits.deBruijn64tab"], apart := false, laid := [("math/bits.deBruijn32tab", laid_math_bits_deBruijn32tab), ("math/bits.deBruijn64tab", laid_math_bits_deBruijn64tab), ("internal/strconv.uint64pow10", laid_internal_strconv_uint64pow10)] }
def IneqTextsSaid : Prop := ineqTextsRow.holds Tryd.pinned (OpenSpec.ofChange ineqTextsSpec)

/-- ITS FALSE NEIGHBOUR: 'it returns false'. Refute it at one input. -/
def ineqTextsWrong : ChangeSpec := { name := "ineqTexts", fn := fun _ => fun
  | [d1, d2] => { results := [.lit (.bool false)], args := [d1, d2] }
  | _ => none }
def IneqTextsWrongFalsely : Prop := ineqTextsRow.holds Tryd.pinned (OpenSpec.ofChange ineqTextsWrong)

/-- 'usufructlaw03.IneqMeans': WHATEVER THE INPUT: true; the input reads as it did. -/
def ineqMeansSpec : ChangeSpec := { name := "ineqMeans", fn := fun _ => fun
  | [d1, d2, d3, d4] => { results := [.lit (.bool true)], args := [d1, d2, d3, d4] }
  | _ => none }
def ineqMeansRow : OpenClaim := { program := "ytbccnfgceabopaadoor", sum := "4e9d49d09e59fc38b24366f97049ef7be742769f650db88c94a9c14353a35684", func := "usufruct/usufructlaw03.IneqMeans", spec := "ineqMeans", inPlace := ["internal/abi.NoEscape", "internal/bytealg.MakeNoZero"], unfollowed := true, recurses := true, named := ["internal/strconv.uint64pow10", "math/bits.deBruijn32tab", "math/bits.deBruijn64tab"], apart := false, laid := [("math/bits.deBruijn32tab", laid_math_bits_deBruijn32tab), ("math/bits.deBruijn64tab", laid_math_bits_deBruijn64tab), ("internal/strconv.uint64pow10", laid_internal_strconv_uint64pow10)] }
def IneqMeansSaid : Prop := ineqMeansRow.holds Tryd.pinned (OpenSpec.ofChange ineqMeansSpec)

/-- ITS FALSE NEIGHBOUR: 'it returns false'. Refute it at one input. -/
def ineqMeansWrong : ChangeSpec := { name := "ineqMeans", fn := fun _ => fun
  | [d1, d2, d3, d4] => { results := [.lit (.bool false)], args := [d1, d2, d3, d4] }
  | _ => none }
def IneqMeansWrongFalsely : Prop := ineqMeansRow.holds Tryd.pinned (OpenSpec.ofChange ineqMeansWrong)

/-- 'usufructlaw02.TermKnown': WHATEVER THE INPUT: true; the input reads as it did. -/
def termKnownSpec : ChangeSpec := { name := "termKnown", fn := fun _ => fun
  | [] => { results := [.lit (.bool true)], args := [] }
  | _ => none }
def termKnownRow : OpenClaim := { program := "ytbccnfgceabopaadoor", sum := "4e9d49d09e59fc38b24366f97049ef7be742769f650db88c94a9c14353a35684", func := "usufruct/usufructlaw02.TermKnown", spec := "termKnown", inPlace := ["internal/abi.NoEscape", "internal/bytealg.MakeNoZero"], unfollowed := true, recurses := true, named := ["internal/strconv.uint64pow10", "math/bits.deBruijn32tab", "math/bits.deBruijn64tab"], apart := false, laid := [("math/bits.deBruijn32tab", laid_math_bits_deBruijn32tab), ("math/bits.deBruijn64tab", laid_math_bits_deBruijn64tab), ("internal/strconv.uint64pow10", laid_internal_strconv_uint64pow10)] }
def TermKnownSaid : Prop := termKnownRow.holds Tryd.pinned (OpenSpec.ofChange termKnownSpec)

/-- ITS FALSE NEIGHBOUR: 'it returns false'. Refute it at one input. -/
def termKnownWrong : ChangeSpec := { name := "termKnown", fn := fun _ => fun
  | [] => { results := [.lit (.bool false)], args := [] }
  | _ => none }
def TermKnownWrongFalsely : Prop := termKnownRow.holds Tryd.pinned (OpenSpec.ofChange termKnownWrong)

/-- 'usufructlaw02.TermOps': WHATEVER THE INPUT: true; the input reads as it did. -/
def termOpsSpec : ChangeSpec := { name := "termOps", fn := fun _ => fun
  | [d1, d2, d3] => { results := [.lit (.bool true)], args := [d1, d2, d3] }
  | _ => none }
def termOpsRow : OpenClaim := { program := "ytbccnfgceabopaadoor", sum := "4e9d49d09e59fc38b24366f97049ef7be742769f650db88c94a9c14353a35684", func := "usufruct/usufructlaw02.TermOps", spec := "termOps", inPlace := ["internal/abi.NoEscape", "internal/bytealg.MakeNoZero"], unfollowed := true, recurses := true, named := ["internal/strconv.uint64pow10", "math/bits.deBruijn32tab", "math/bits.deBruijn64tab"], apart := false, laid := [("math/bits.deBruijn32tab", laid_math_bits_deBruijn32tab), ("math/bits.deBruijn64tab", laid_math_bits_deBruijn64tab), ("internal/strconv.uint64pow10", laid_internal_strconv_uint64pow10)] }
def TermOpsSaid : Prop := termOpsRow.holds Tryd.pinned (OpenSpec.ofChange termOpsSpec)

/-- ITS FALSE NEIGHBOUR: 'it returns false'. Refute it at one input. -/
def termOpsWrong : ChangeSpec := { name := "termOps", fn := fun _ => fun
  | [d1, d2, d3] => { results := [.lit (.bool false)], args := [d1, d2, d3] }
  | _ => none }
def TermOpsWrongFalsely : Prop := termOpsRow.holds Tryd.pinned (OpenSpec.ofChange termOpsWrong)

/-- 'usufructlaw02.TermCloses': WHATEVER THE INPUT: true; the input reads as it did. -/
def termClosesSpec : ChangeSpec := { name := "termCloses", fn := fun _ => fun
  | [d1, d2, d3] => { results := [.lit (.bool true)], args := [d1, d2, d3] }
  | _ => none }
def termClosesRow : OpenClaim := { program := "ytbccnfgceabopaadoor", sum := "4e9d49d09e59fc38b24366f97049ef7be742769f650db88c94a9c14353a35684", func := "usufruct/usufructlaw02.TermCloses", spec := "termCloses", inPlace := ["internal/abi.NoEscape", "internal/bytealg.MakeNoZero"], unfollowed := true, recurses := true, named := ["internal/strconv.uint64pow10", "math/bits.deBruijn32tab", "math/bits.deBruijn64tab"], apart := false, laid := [("math/bits.deBruijn32tab", laid_math_bits_deBruijn32tab), ("math/bits.deBruijn64tab", laid_math_bits_deBruijn64tab), ("internal/strconv.uint64pow10", laid_internal_strconv_uint64pow10)] }
def TermClosesSaid : Prop := termClosesRow.holds Tryd.pinned (OpenSpec.ofChange termClosesSpec)

/-- ITS FALSE NEIGHBOUR: 'it returns false'. Refute it at one input. -/
def termClosesWrong : ChangeSpec := { name := "termCloses", fn := fun _ => fun
  | [d1, d2, d3] => { results := [.lit (.bool false)], args := [d1, d2, d3] }
  | _ => none }
def TermClosesWrongFalsely : Prop := termClosesRow.holds Tryd.pinned (OpenSpec.ofChange termClosesWrong)

/- THE SECOND FORM. 'bulk': how many values and letters a reading holds, each counted each time it is reached (what is shared counts as often as it is met; a slice's spare places count too). A statement '..UptoSaid' is the law's where the arguments, and the package variables that the reading takes, are together of bulk at most 1048576: NARROWER than '..Said'. Prove '..Said' where nothing that the law and all that it calls make is longer than what came in: it says more and counts as full. Else prove '..UptoSaid'. A law counts once. -/
mutual
def uptoBulk {H : Type} : DataW H → Nat
  | .lit (.string bytes) => bytes.length + 1
  | .lit _ => 1
  | .nil => 1
  | .ptr d => uptoBulk d + 1
  | .slice elems spare => uptoBulkAll elems + uptoBulkAll spare + 1
  | .agg parts => uptoBulkAll parts + 1
  | .iface _ d => uptoBulk d + 1
  | .map entries => uptoBulkEntries entries + 1
  | .held _ => 1
def uptoBulkAll {H : Type} : List (DataW H) → Nat
  | [] => 0
  | d :: r => uptoBulk d + uptoBulkAll r
def uptoBulkEntries {H : Type} : List (Lit × DataW H) → Nat
  | [] => 0
  | x :: r => uptoBulkEntry x + uptoBulkEntries r
def uptoBulkEntry {H : Type} : Lit × DataW H → Nat
  | (.string bytes, d) => bytes.length + uptoBulk d + 1
  | (_, d) => uptoBulk d + 1
 end
def uptoSmall : (H : Type) → List (DataW H) → Bool := fun _ ds => decide (uptoBulkAll ds ≤ 1048576)
def OpenSpec.upto (s : _root_.Go.ChangeSpec) : _root_.Go.OpenSpec := { _root_.Go.OpenSpec.ofChange s with cond := some uptoSmall }

/-- 'usufructlaw03.IneqKnown', WHERE WHAT IT READS IS OF BULK AT MOST 1048576: true; the input reads as it did. -/
def ineqKnownUptoRow : OpenClaim := { program := "ytbccnfgceabopaadoor", sum := "4e9d49d09e59fc38b24366f97049ef7be742769f650db88c94a9c14353a35684", func := "usufruct/usufructlaw03.IneqKnown", spec := "ineqKnown", inPlace := ["internal/abi.NoEscape", "internal/bytealg.MakeNoZero"], unfollowed := true, recurses := true, named := ["internal/strconv.uint64pow10", "math/bits.deBruijn32tab", "math/bits.deBruijn64tab"], apart := false, laid := [("math/bits.deBruijn32tab", laid_math_bits_deBruijn32tab), ("math/bits.deBruijn64tab", laid_math_bits_deBruijn64tab), ("internal/strconv.uint64pow10", laid_internal_strconv_uint64pow10)], narrowed := true }
def IneqKnownUptoSaid : Prop := ineqKnownUptoRow.holds Tryd.pinned (OpenSpec.upto ineqKnownSpec)

/-- 'usufructlaw03.IneqHolds', WHERE WHAT IT READS IS OF BULK AT MOST 1048576: true; the input reads as it did. -/
def ineqHoldsUptoRow : OpenClaim := { program := "ytbccnfgceabopaadoor", sum := "4e9d49d09e59fc38b24366f97049ef7be742769f650db88c94a9c14353a35684", func := "usufruct/usufructlaw03.IneqHolds", spec := "ineqHolds", inPlace := ["internal/abi.NoEscape", "internal/bytealg.MakeNoZero"], unfollowed := true, recurses := true, named := ["internal/strconv.uint64pow10", "math/bits.deBruijn32tab", "math/bits.deBruijn64tab"], apart := false, laid := [("math/bits.deBruijn32tab", laid_math_bits_deBruijn32tab), ("math/bits.deBruijn64tab", laid_math_bits_deBruijn64tab), ("internal/strconv.uint64pow10", laid_internal_strconv_uint64pow10)], narrowed := true }
def IneqHoldsUptoSaid : Prop := ineqHoldsUptoRow.holds Tryd.pinned (OpenSpec.upto ineqHoldsSpec)

/-- 'usufructlaw03.IneqFits', WHERE WHAT IT READS IS OF BULK AT MOST 1048576: true; the input reads as it did. -/
def ineqFitsUptoRow : OpenClaim := { program := "ytbccnfgceabopaadoor", sum := "4e9d49d09e59fc38b24366f97049ef7be742769f650db88c94a9c14353a35684", func := "usufruct/usufructlaw03.IneqFits", spec := "ineqFits", inPlace := ["internal/abi.NoEscape", "internal/bytealg.MakeNoZero"], unfollowed := true, recurses := true, named := ["internal/strconv.uint64pow10", "math/bits.deBruijn32tab", "math/bits.deBruijn64tab"], apart := false, laid := [("math/bits.deBruijn32tab", laid_math_bits_deBruijn32tab), ("math/bits.deBruijn64tab", laid_math_bits_deBruijn64tab), ("internal/strconv.uint64pow10", laid_internal_strconv_uint64pow10)], narrowed := true }
def IneqFitsUptoSaid : Prop := ineqFitsUptoRow.holds Tryd.pinned (OpenSpec.upto ineqFitsSpec)

/-- 'usufructlaw03.IneqOrder', WHERE WHAT IT READS IS OF BULK AT MOST 1048576: true; the input reads as it did. -/
def ineqOrderUptoRow : OpenClaim := { program := "ytbccnfgceabopaadoor", sum := "4e9d49d09e59fc38b24366f97049ef7be742769f650db88c94a9c14353a35684", func := "usufruct/usufructlaw03.IneqOrder", spec := "ineqOrder", inPlace := ["internal/abi.NoEscape", "internal/bytealg.MakeNoZero"], unfollowed := true, recurses := true, named := ["internal/strconv.uint64pow10", "math/bits.deBruijn32tab", "math/bits.deBruijn64tab"], apart := false, laid := [("math/bits.deBruijn32tab", laid_math_bits_deBruijn32tab), ("math/bits.deBruijn64tab", laid_math_bits_deBruijn64tab), ("internal/strconv.uint64pow10", laid_internal_strconv_uint64pow10)], narrowed := true }
def IneqOrderUptoSaid : Prop := ineqOrderUptoRow.holds Tryd.pinned (OpenSpec.upto ineqOrderSpec)

/-- 'usufructlaw03.IneqTexts', WHERE WHAT IT READS IS OF BULK AT MOST 1048576: true; the input reads as it did. -/
def ineqTextsUptoRow : OpenClaim := { program := "ytbccnfgceabopaadoor", sum := "4e9d49d09e59fc38b24366f97049ef7be742769f650db88c94a9c14353a35684", func := "usufruct/usufructlaw03.IneqTexts", spec := "ineqTexts", inPlace := ["internal/abi.NoEscape", "internal/bytealg.MakeNoZero"], unfollowed := true, recurses := true, named := ["internal/strconv.uint64pow10", "math/bits.deBruijn32tab", "math/bits.deBruijn64tab"], apart := false, laid := [("math/bits.deBruijn32tab", laid_math_bits_deBruijn32tab), ("math/bits.deBruijn64tab", laid_math_bits_deBruijn64tab), ("internal/strconv.uint64pow10", laid_internal_strconv_uint64pow10)], narrowed := true }
def IneqTextsUptoSaid : Prop := ineqTextsUptoRow.holds Tryd.pinned (OpenSpec.upto ineqTextsSpec)

/-- 'usufructlaw03.IneqMeans', WHERE WHAT IT READS IS OF BULK AT MOST 1048576: true; the input reads as it did. -/
def ineqMeansUptoRow : OpenClaim := { program := "ytbccnfgceabopaadoor", sum := "4e9d49d09e59fc38b24366f97049ef7be742769f650db88c94a9c14353a35684", func := "usufruct/usufructlaw03.IneqMeans", spec := "ineqMeans", inPlace := ["internal/abi.NoEscape", "internal/bytealg.MakeNoZero"], unfollowed := true, recurses := true, named := ["internal/strconv.uint64pow10", "math/bits.deBruijn32tab", "math/bits.deBruijn64tab"], apart := false, laid := [("math/bits.deBruijn32tab", laid_math_bits_deBruijn32tab), ("math/bits.deBruijn64tab", laid_math_bits_deBruijn64tab), ("internal/strconv.uint64pow10", laid_internal_strconv_uint64pow10)], narrowed := true }
def IneqMeansUptoSaid : Prop := ineqMeansUptoRow.holds Tryd.pinned (OpenSpec.upto ineqMeansSpec)

/-- 'usufructlaw02.TermKnown', WHERE WHAT IT READS IS OF BULK AT MOST 1048576: true; the input reads as it did. -/
def termKnownUptoRow : OpenClaim := { program := "ytbccnfgceabopaadoor", sum := "4e9d49d09e59fc38b24366f97049ef7be742769f650db88c94a9c14353a35684", func := "usufruct/usufructlaw02.TermKnown", spec := "termKnown", inPlace := ["internal/abi.NoEscape", "internal/bytealg.MakeNoZero"], unfollowed := true, recurses := true, named := ["internal/strconv.uint64pow10", "math/bits.deBruijn32tab", "math/bits.deBruijn64tab"], apart := false, laid := [("math/bits.deBruijn32tab", laid_math_bits_deBruijn32tab), ("math/bits.deBruijn64tab", laid_math_bits_deBruijn64tab), ("internal/strconv.uint64pow10", laid_internal_strconv_uint64pow10)], narrowed := true }
def TermKnownUptoSaid : Prop := termKnownUptoRow.holds Tryd.pinned (OpenSpec.upto termKnownSpec)

/-- 'usufructlaw02.TermOps', WHERE WHAT IT READS IS OF BULK AT MOST 1048576: true; the input reads as it did. -/
def termOpsUptoRow : OpenClaim := { program := "ytbccnfgceabopaadoor", sum := "4e9d49d09e59fc38b24366f97049ef7be742769f650db88c94a9c14353a35684", func := "usufruct/usufructlaw02.TermOps", spec := "termOps", inPlace := ["internal/abi.NoEscape", "internal/bytealg.MakeNoZero"], unfollowed := true, recurses := true, named := ["internal/strconv.uint64pow10", "math/bits.deBruijn32tab", "math/bits.deBruijn64tab"], apart := false, laid := [("math/bits.deBruijn32tab", laid_math_bits_deBruijn32tab), ("math/bits.deBruijn64tab", laid_math_bits_deBruijn64tab), ("internal/strconv.uint64pow10", laid_internal_strconv_uint64pow10)], narrowed := true }
def TermOpsUptoSaid : Prop := termOpsUptoRow.holds Tryd.pinned (OpenSpec.upto termOpsSpec)

/-- 'usufructlaw02.TermCloses', WHERE WHAT IT READS IS OF BULK AT MOST 1048576: true; the input reads as it did. -/
def termClosesUptoRow : OpenClaim := { program := "ytbccnfgceabopaadoor", sum := "4e9d49d09e59fc38b24366f97049ef7be742769f650db88c94a9c14353a35684", func := "usufruct/usufructlaw02.TermCloses", spec := "termCloses", inPlace := ["internal/abi.NoEscape", "internal/bytealg.MakeNoZero"], unfollowed := true, recurses := true, named := ["internal/strconv.uint64pow10", "math/bits.deBruijn32tab", "math/bits.deBruijn64tab"], apart := false, laid := [("math/bits.deBruijn32tab", laid_math_bits_deBruijn32tab), ("math/bits.deBruijn64tab", laid_math_bits_deBruijn64tab), ("internal/strconv.uint64pow10", laid_internal_strconv_uint64pow10)], narrowed := true }
def TermClosesUptoSaid : Prop := termClosesUptoRow.holds Tryd.pinned (OpenSpec.upto termClosesSpec)

end Rows
end Go.Proofs.YtbccnfgceabopaaDoor
