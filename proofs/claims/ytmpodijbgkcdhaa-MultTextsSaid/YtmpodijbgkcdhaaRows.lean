/-
  No cell of these rows narrows 'for every input' (looked for: loops, veiled, ifaces, maps, wideKeys, modest, calm, conditions, laid).
  DERIVED. THE GIVEN ROWS OF THIS SEAT. 7 by the template 'for every input the law returns true; each argument reads behind the call as it read before'; 0 by the template 'total and deterministic' (their statements: YtmpodijbgkcdhaaTotals.lean).
  GIVEN WITH THE SEED: the statements are not yours to turn. If you find one false, say at which input.
  Laid BY PROGRAM, IN A SANDBOX (cutbox-rows.mjs): the forced cells as the released guide's own fill.sh prints them over the translation ca9ffe7a67bff94a… (all of the seat's roots in one cut). By AI agents, Wed Nov 11 2026. No macro, syntax, notation, axiom, sorry.
-/
import Derived.Test.YtmpodijbgkcdhaaChecked
import GoSem.Claim
import GoSem.ClaimJoined
import GoSem.ClaimMapViews
import Derived.JoinedTies
import Derived.KernelRfl
namespace Go.Proofs.Ytmpodijbgkcdhaa
/- THE CELL 'sum', in the pinned program and in every row, IS THE sha256 OF THE DUMP (.gsa) THAT YtmpodijbgkcdhaaProg.lean LOADS. Nothing in Lean hashes anything: it is a label: what it is worth is what the hold of that sum in a sandbox is worth. -/
noncomputable def Try.pinned : Pinned := { name := "ytmpodijbgkcdhaa", sum := "ca9ffe7a67bff94a3f776761323e7f4093d84161ed09cad43f3c92ab08921251", checked := Try.checked }
namespace Rows
def none {H : Type} : Left H := { results := [], args := [] }

/-- 'usufructlaw01.MultLists': WHATEVER THE INPUT: true; the input reads as it did. -/
def multListsSpec : ChangeSpec := { name := "multLists", fn := fun _ => fun
  | [d] => { results := [.lit (.bool true)], args := [d] }
  | _ => none }
def multListsRow : OpenClaim := { program := "ytmpodijbgkcdhaa", sum := "ca9ffe7a67bff94a3f776761323e7f4093d84161ed09cad43f3c92ab08921251", func := "usufruct/usufructlaw01.MultLists", spec := "multLists", apart := false }
def MultListsSaid : Prop := multListsRow.holds Try.pinned (OpenSpec.ofChange multListsSpec)

/-- ITS FALSE NEIGHBOUR: 'it returns false'. Refute it at one input. -/
def multListsWrong : ChangeSpec := { name := "multLists", fn := fun _ => fun
  | [d] => { results := [.lit (.bool false)], args := [d] }
  | _ => none }
def MultListsWrongFalsely : Prop := multListsRow.holds Try.pinned (OpenSpec.ofChange multListsWrong)

/-- 'usufructlaw01.MultCounts': WHATEVER THE INPUT: true; the input reads as it did. -/
def multCountsSpec : ChangeSpec := { name := "multCounts", fn := fun _ => fun
  | [d1, d2, d3, d4] => { results := [.lit (.bool true)], args := [d1, d2, d3, d4] }
  | _ => none }
def multCountsRow : OpenClaim := { program := "ytmpodijbgkcdhaa", sum := "ca9ffe7a67bff94a3f776761323e7f4093d84161ed09cad43f3c92ab08921251", func := "usufruct/usufructlaw01.MultCounts", spec := "multCounts", apart := false }
def MultCountsSaid : Prop := multCountsRow.holds Try.pinned (OpenSpec.ofChange multCountsSpec)

/-- ITS FALSE NEIGHBOUR: 'it returns false'. Refute it at one input. -/
def multCountsWrong : ChangeSpec := { name := "multCounts", fn := fun _ => fun
  | [d1, d2, d3, d4] => { results := [.lit (.bool false)], args := [d1, d2, d3, d4] }
  | _ => none }
def MultCountsWrongFalsely : Prop := multCountsRow.holds Try.pinned (OpenSpec.ofChange multCountsWrong)

/-- 'usufructlaw01.MultParts': WHATEVER THE INPUT: true; the input reads as it did. -/
def multPartsSpec : ChangeSpec := { name := "multParts", fn := fun _ => fun
  | [d1, d2, d3, d4, d5] => { results := [.lit (.bool true)], args := [d1, d2, d3, d4, d5] }
  | _ => none }
def multPartsRow : OpenClaim := { program := "ytmpodijbgkcdhaa", sum := "ca9ffe7a67bff94a3f776761323e7f4093d84161ed09cad43f3c92ab08921251", func := "usufruct/usufructlaw01.MultParts", spec := "multParts", apart := false }
def MultPartsSaid : Prop := multPartsRow.holds Try.pinned (OpenSpec.ofChange multPartsSpec)

/-- ITS FALSE NEIGHBOUR: 'it returns false'. Refute it at one input. -/
def multPartsWrong : ChangeSpec := { name := "multParts", fn := fun _ => fun
  | [d1, d2, d3, d4, d5] => { results := [.lit (.bool false)], args := [d1, d2, d3, d4, d5] }
  | _ => none }
def MultPartsWrongFalsely : Prop := multPartsRow.holds Try.pinned (OpenSpec.ofChange multPartsWrong)

/-- 'usufructlaw01.MultFits': WHATEVER THE INPUT: true; the input reads as it did. -/
def multFitsSpec : ChangeSpec := { name := "multFits", fn := fun _ => fun
  | [d1, d2, d3, d4] => { results := [.lit (.bool true)], args := [d1, d2, d3, d4] }
  | _ => none }
def multFitsRow : OpenClaim := { program := "ytmpodijbgkcdhaa", sum := "ca9ffe7a67bff94a3f776761323e7f4093d84161ed09cad43f3c92ab08921251", func := "usufruct/usufructlaw01.MultFits", spec := "multFits", apart := false }
def MultFitsSaid : Prop := multFitsRow.holds Try.pinned (OpenSpec.ofChange multFitsSpec)

/-- ITS FALSE NEIGHBOUR: 'it returns false'. Refute it at one input. -/
def multFitsWrong : ChangeSpec := { name := "multFits", fn := fun _ => fun
  | [d1, d2, d3, d4] => { results := [.lit (.bool false)], args := [d1, d2, d3, d4] }
  | _ => none }
def MultFitsWrongFalsely : Prop := multFitsRow.holds Try.pinned (OpenSpec.ofChange multFitsWrong)

/-- 'usufructlaw01.MultOps': WHATEVER THE INPUT: true; the input reads as it did. -/
def multOpsSpec : ChangeSpec := { name := "multOps", fn := fun _ => fun
  | [d1, d2, d3] => { results := [.lit (.bool true)], args := [d1, d2, d3] }
  | _ => none }
def multOpsRow : OpenClaim := { program := "ytmpodijbgkcdhaa", sum := "ca9ffe7a67bff94a3f776761323e7f4093d84161ed09cad43f3c92ab08921251", func := "usufruct/usufructlaw01.MultOps", spec := "multOps", apart := false }
def MultOpsSaid : Prop := multOpsRow.holds Try.pinned (OpenSpec.ofChange multOpsSpec)

/-- ITS FALSE NEIGHBOUR: 'it returns false'. Refute it at one input. -/
def multOpsWrong : ChangeSpec := { name := "multOps", fn := fun _ => fun
  | [d1, d2, d3] => { results := [.lit (.bool false)], args := [d1, d2, d3] }
  | _ => none }
def MultOpsWrongFalsely : Prop := multOpsRow.holds Try.pinned (OpenSpec.ofChange multOpsWrong)

/-- 'usufructlaw01.MultKnown': WHATEVER THE INPUT: true; the input reads as it did. -/
def multKnownSpec : ChangeSpec := { name := "multKnown", fn := fun _ => fun
  | [] => { results := [.lit (.bool true)], args := [] }
  | _ => none }
def multKnownRow : OpenClaim := { program := "ytmpodijbgkcdhaa", sum := "ca9ffe7a67bff94a3f776761323e7f4093d84161ed09cad43f3c92ab08921251", func := "usufruct/usufructlaw01.MultKnown", spec := "multKnown", apart := false }
def MultKnownSaid : Prop := multKnownRow.holds Try.pinned (OpenSpec.ofChange multKnownSpec)

/-- ITS FALSE NEIGHBOUR: 'it returns false'. Refute it at one input. -/
def multKnownWrong : ChangeSpec := { name := "multKnown", fn := fun _ => fun
  | [] => { results := [.lit (.bool false)], args := [] }
  | _ => none }
def MultKnownWrongFalsely : Prop := multKnownRow.holds Try.pinned (OpenSpec.ofChange multKnownWrong)

/-- 'usufructlaw01.MultTexts': WHATEVER THE INPUT: true; the input reads as it did. -/
def multTextsSpec : ChangeSpec := { name := "multTexts", fn := fun _ => fun
  | [d1, d2] => { results := [.lit (.bool true)], args := [d1, d2] }
  | _ => none }
def multTextsRow : OpenClaim := { program := "ytmpodijbgkcdhaa", sum := "ca9ffe7a67bff94a3f776761323e7f4093d84161ed09cad43f3c92ab08921251", func := "usufruct/usufructlaw01.MultTexts", spec := "multTexts", apart := false }
def MultTextsSaid : Prop := multTextsRow.holds Try.pinned (OpenSpec.ofChange multTextsSpec)

/-- ITS FALSE NEIGHBOUR: 'it returns false'. Refute it at one input. -/
def multTextsWrong : ChangeSpec := { name := "multTexts", fn := fun _ => fun
  | [d1, d2] => { results := [.lit (.bool false)], args := [d1, d2] }
  | _ => none }
def MultTextsWrongFalsely : Prop := multTextsRow.holds Try.pinned (OpenSpec.ofChange multTextsWrong)

/- THE SECOND FORM. 'bulk': how many values and letters a reading holds, each counted each time it is reached (what is shared counts as often as it is met; a slice's spare places count too). A statement '..UptoSaid' is the law's where the arguments, and the package variables that the reading takes, are together of bulk at most 1048576: NARROWER than '..Said'. Prove '..Said' where nothing that the law and all that it calls make is longer than what came in: it says more and counts as full. Else prove '..UptoSaid'. A law counts once. -/
mutual
def uptoBulk {H : Type} : DataW H → Nat
  | .lit (.string bytes) => bytes.length + 1
  | .lit _ => 1
  | .nil => 1
  | .ptr d => uptoBulk d + 1
  | .slice elems spare => uptoBulkAll elems + uptoBulkAll spare + 1
  | .agg parts => uptoBulkAll parts + 1
  | .iface _ d => uptoBulk d + 1
  | .map entries => uptoBulkEntries entries + 1
  | .held _ => 1
def uptoBulkAll {H : Type} : List (DataW H) → Nat
  | [] => 0
  | d :: r => uptoBulk d + uptoBulkAll r
def uptoBulkEntries {H : Type} : List (Lit × DataW H) → Nat
  | [] => 0
  | x :: r => uptoBulkEntry x + uptoBulkEntries r
def uptoBulkEntry {H : Type} : Lit × DataW H → Nat
  | (.string bytes, d) => bytes.length + uptoBulk d + 1
  | (_, d) => uptoBulk d + 1
 end
def uptoSmall : (H : Type) → List (DataW H) → Bool := fun _ ds => decide (uptoBulkAll ds ≤ 1048576)
def OpenSpec.upto (s : _root_.Go.ChangeSpec) : _root_.Go.OpenSpec := { _root_.Go.OpenSpec.ofChange s with cond := some uptoSmall }

/-- 'usufructlaw01.MultLists', WHERE WHAT IT READS IS OF BULK AT MOST 1048576: true; the input reads as it did. -/
def multListsUptoRow : OpenClaim := { program := "ytmpodijbgkcdhaa", sum := "ca9ffe7a67bff94a3f776761323e7f4093d84161ed09cad43f3c92ab08921251", func := "usufruct/usufructlaw01.MultLists", spec := "multLists", apart := false, narrowed := true }
def MultListsUptoSaid : Prop := multListsUptoRow.holds Try.pinned (OpenSpec.upto multListsSpec)

/-- 'usufructlaw01.MultCounts', WHERE WHAT IT READS IS OF BULK AT MOST 1048576: true; the input reads as it did. -/
def multCountsUptoRow : OpenClaim := { program := "ytmpodijbgkcdhaa", sum := "ca9ffe7a67bff94a3f776761323e7f4093d84161ed09cad43f3c92ab08921251", func := "usufruct/usufructlaw01.MultCounts", spec := "multCounts", apart := false, narrowed := true }
def MultCountsUptoSaid : Prop := multCountsUptoRow.holds Try.pinned (OpenSpec.upto multCountsSpec)

/-- 'usufructlaw01.MultParts', WHERE WHAT IT READS IS OF BULK AT MOST 1048576: true; the input reads as it did. -/
def multPartsUptoRow : OpenClaim := { program := "ytmpodijbgkcdhaa", sum := "ca9ffe7a67bff94a3f776761323e7f4093d84161ed09cad43f3c92ab08921251", func := "usufruct/usufructlaw01.MultParts", spec := "multParts", apart := false, narrowed := true }
def MultPartsUptoSaid : Prop := multPartsUptoRow.holds Try.pinned (OpenSpec.upto multPartsSpec)

/-- 'usufructlaw01.MultFits', WHERE WHAT IT READS IS OF BULK AT MOST 1048576: true; the input reads as it did. -/
def multFitsUptoRow : OpenClaim := { program := "ytmpodijbgkcdhaa", sum := "ca9ffe7a67bff94a3f776761323e7f4093d84161ed09cad43f3c92ab08921251", func := "usufruct/usufructlaw01.MultFits", spec := "multFits", apart := false, narrowed := true }
def MultFitsUptoSaid : Prop := multFitsUptoRow.holds Try.pinned (OpenSpec.upto multFitsSpec)

/-- 'usufructlaw01.MultOps', WHERE WHAT IT READS IS OF BULK AT MOST 1048576: true; the input reads as it did. -/
def multOpsUptoRow : OpenClaim := { program := "ytmpodijbgkcdhaa", sum := "ca9ffe7a67bff94a3f776761323e7f4093d84161ed09cad43f3c92ab08921251", func := "usufruct/usufructlaw01.MultOps", spec := "multOps", apart := false, narrowed := true }
def MultOpsUptoSaid : Prop := multOpsUptoRow.holds Try.pinned (OpenSpec.upto multOpsSpec)

/-- 'usufructlaw01.MultKnown', WHERE WHAT IT READS IS OF BULK AT MOST 1048576: true; the input reads as it did. -/
def multKnownUptoRow : OpenClaim := { program := "ytmpodijbgkcdhaa", sum := "ca9ffe7a67bff94a3f776761323e7f4093d84161ed09cad43f3c92ab08921251", func := "usufruct/usufructlaw01.MultKnown", spec := "multKnown", apart := false, narrowed := true }
def MultKnownUptoSaid : Prop := multKnownUptoRow.holds Try.pinned (OpenSpec.upto multKnownSpec)

/-- 'usufructlaw01.MultTexts', WHERE WHAT IT READS IS OF BULK AT MOST 1048576: true; the input reads as it did. -/
def multTextsUptoRow : OpenClaim := { program := "ytmpodijbgkcdhaa", sum := "ca9ffe7a67bff94a3f776761323e7f4093d84161ed09cad43f3c92ab08921251", func := "usufruct/usufructlaw01.MultTexts", spec := "multTexts", apart := false, narrowed := true }
def MultTextsUptoSaid : Prop := multTextsUptoRow.holds Try.pinned (OpenSpec.upto multTextsSpec)

end Rows
end Go.Proofs.Ytmpodijbgkcdhaa
