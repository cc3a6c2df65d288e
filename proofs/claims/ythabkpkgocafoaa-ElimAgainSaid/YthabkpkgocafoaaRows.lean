/-
  No cell of these rows narrows 'for every input' (looked for: loops, veiled, ifaces, maps, wideKeys, modest, calm, conditions, laid).
  DERIVED. THE GIVEN ROWS OF THIS SEAT. 9 by the template 'for every input the law returns true; each argument reads behind the call as it read before'; 0 by the template 'total and deterministic' (their statements: YthabkpkgocafoaaTotals.lean).
  GIVEN WITH THE SEED: the statements are not yours to turn. If you find one false, say at which input.
  Laid BY PROGRAM, IN A SANDBOX (cutbox-rows.mjs): the forced cells as the released guide's own fill.sh prints them over the translation 30462681ee8b4a51… (all of the seat's roots in one cut). By AI agents, Wed Nov 11 2026. No macro, syntax, notation, axiom, sorry.
-/
import Derived.Test.YthabkpkgocafoaaChecked
import GoSem.Claim
import GoSem.ClaimJoined
import GoSem.ClaimMapViews
import Derived.JoinedTies
import Derived.KernelRfl
namespace Go.Proofs.Ythabkpkgocafoaa
/- THE CELL 'sum', in the pinned program and in every row, IS THE sha256 OF THE DUMP (.gsa) THAT YthabkpkgocafoaaProg.lean LOADS. Nothing in Lean hashes anything: it is a label: what it is worth is what the hold of that sum in a sandbox is worth. -/
noncomputable def Try.pinned : Pinned := { name := "ythabkpkgocafoaa", sum := "30462681ee8b4a5180cffa95bc688fc9d9b82953b17de2d03e52096b4eedcc4a", checked := Try.checked }
namespace Rows
def none {H : Type} : Left H := { results := [], args := [] }

/-- 'usufructlaw04.LeastKnown': WHATEVER THE INPUT: true; the input reads as it did. -/
def leastKnownSpec : ChangeSpec := { name := "leastKnown", fn := fun _ => fun
  | [] => { results := [.lit (.bool true)], args := [] }
  | _ => none }
def leastKnownRow : OpenClaim := { program := "ythabkpkgocafoaa", sum := "30462681ee8b4a5180cffa95bc688fc9d9b82953b17de2d03e52096b4eedcc4a", func := "usufruct/usufructlaw04.LeastKnown", spec := "leastKnown", unfollowed := true, recurses := true, apart := false }
def LeastKnownSaid : Prop := leastKnownRow.holds Try.pinned (OpenSpec.ofChange leastKnownSpec)

/-- ITS FALSE NEIGHBOUR: 'it returns false'. Refute it at one input. -/
def leastKnownWrong : ChangeSpec := { name := "leastKnown", fn := fun _ => fun
  | [] => { results := [.lit (.bool false)], args := [] }
  | _ => none }
def LeastKnownWrongFalsely : Prop := leastKnownRow.holds Try.pinned (OpenSpec.ofChange leastKnownWrong)

/-- 'usufructlaw04.LeastSolves': WHATEVER THE INPUT: true; the input reads as it did. -/
def leastSolvesSpec : ChangeSpec := { name := "leastSolves", fn := fun _ => fun
  | [d1, d2, d3] => { results := [.lit (.bool true)], args := [d1, d2, d3] }
  | _ => none }
def leastSolvesRow : OpenClaim := { program := "ythabkpkgocafoaa", sum := "30462681ee8b4a5180cffa95bc688fc9d9b82953b17de2d03e52096b4eedcc4a", func := "usufruct/usufructlaw04.LeastSolves", spec := "leastSolves", unfollowed := true, recurses := true, apart := false }
def LeastSolvesSaid : Prop := leastSolvesRow.holds Try.pinned (OpenSpec.ofChange leastSolvesSpec)

/-- ITS FALSE NEIGHBOUR: 'it returns false'. Refute it at one input. -/
def leastSolvesWrong : ChangeSpec := { name := "leastSolves", fn := fun _ => fun
  | [d1, d2, d3] => { results := [.lit (.bool false)], args := [d1, d2, d3] }
  | _ => none }
def LeastSolvesWrongFalsely : Prop := leastSolvesRow.holds Try.pinned (OpenSpec.ofChange leastSolvesWrong)

/-- 'usufructlaw04.LeastAgain': WHATEVER THE INPUT: true; the input reads as it did. -/
def leastAgainSpec : ChangeSpec := { name := "leastAgain", fn := fun _ => fun
  | [d1, d2, d3, d4] => { results := [.lit (.bool true)], args := [d1, d2, d3, d4] }
  | _ => none }
def leastAgainRow : OpenClaim := { program := "ythabkpkgocafoaa", sum := "30462681ee8b4a5180cffa95bc688fc9d9b82953b17de2d03e52096b4eedcc4a", func := "usufruct/usufructlaw04.LeastAgain", spec := "leastAgain", unfollowed := true, recurses := true, apart := false }
def LeastAgainSaid : Prop := leastAgainRow.holds Try.pinned (OpenSpec.ofChange leastAgainSpec)

/-- ITS FALSE NEIGHBOUR: 'it returns false'. Refute it at one input. -/
def leastAgainWrong : ChangeSpec := { name := "leastAgain", fn := fun _ => fun
  | [d1, d2, d3, d4] => { results := [.lit (.bool false)], args := [d1, d2, d3, d4] }
  | _ => none }
def LeastAgainWrongFalsely : Prop := leastAgainRow.holds Try.pinned (OpenSpec.ofChange leastAgainWrong)

/-- 'usufructlaw04.LeastCores': WHATEVER THE INPUT: true; the input reads as it did. -/
def leastCoresSpec : ChangeSpec := { name := "leastCores", fn := fun _ => fun
  | [d1, d2, d3] => { results := [.lit (.bool true)], args := [d1, d2, d3] }
  | _ => none }
def leastCoresRow : OpenClaim := { program := "ythabkpkgocafoaa", sum := "30462681ee8b4a5180cffa95bc688fc9d9b82953b17de2d03e52096b4eedcc4a", func := "usufruct/usufructlaw04.LeastCores", spec := "leastCores", unfollowed := true, recurses := true, apart := false }
def LeastCoresSaid : Prop := leastCoresRow.holds Try.pinned (OpenSpec.ofChange leastCoresSpec)

/-- ITS FALSE NEIGHBOUR: 'it returns false'. Refute it at one input. -/
def leastCoresWrong : ChangeSpec := { name := "leastCores", fn := fun _ => fun
  | [d1, d2, d3] => { results := [.lit (.bool false)], args := [d1, d2, d3] }
  | _ => none }
def LeastCoresWrongFalsely : Prop := leastCoresRow.holds Try.pinned (OpenSpec.ofChange leastCoresWrong)

/-- 'usufructlaw04.LeastBelow': WHATEVER THE INPUT: true; the input reads as it did. -/
def leastBelowSpec : ChangeSpec := { name := "leastBelow", fn := fun _ => fun
  | [d1, d2, d3] => { results := [.lit (.bool true)], args := [d1, d2, d3] }
  | _ => none }
def leastBelowRow : OpenClaim := { program := "ythabkpkgocafoaa", sum := "30462681ee8b4a5180cffa95bc688fc9d9b82953b17de2d03e52096b4eedcc4a", func := "usufruct/usufructlaw04.LeastBelow", spec := "leastBelow", unfollowed := true, recurses := true, apart := false }
def LeastBelowSaid : Prop := leastBelowRow.holds Try.pinned (OpenSpec.ofChange leastBelowSpec)

/-- ITS FALSE NEIGHBOUR: 'it returns false'. Refute it at one input. -/
def leastBelowWrong : ChangeSpec := { name := "leastBelow", fn := fun _ => fun
  | [d1, d2, d3] => { results := [.lit (.bool false)], args := [d1, d2, d3] }
  | _ => none }
def LeastBelowWrongFalsely : Prop := leastBelowRow.holds Try.pinned (OpenSpec.ofChange leastBelowWrong)

/-- 'usufructlaw05.ElimKnown': WHATEVER THE INPUT: true; the input reads as it did. -/
def elimKnownSpec : ChangeSpec := { name := "elimKnown", fn := fun _ => fun
  | [] => { results := [.lit (.bool true)], args := [] }
  | _ => none }
def elimKnownRow : OpenClaim := { program := "ythabkpkgocafoaa", sum := "30462681ee8b4a5180cffa95bc688fc9d9b82953b17de2d03e52096b4eedcc4a", func := "usufruct/usufructlaw05.ElimKnown", spec := "elimKnown", unfollowed := true, recurses := true, apart := false }
def ElimKnownSaid : Prop := elimKnownRow.holds Try.pinned (OpenSpec.ofChange elimKnownSpec)

/-- ITS FALSE NEIGHBOUR: 'it returns false'. Refute it at one input. -/
def elimKnownWrong : ChangeSpec := { name := "elimKnown", fn := fun _ => fun
  | [] => { results := [.lit (.bool false)], args := [] }
  | _ => none }
def ElimKnownWrongFalsely : Prop := elimKnownRow.holds Try.pinned (OpenSpec.ofChange elimKnownWrong)

/-- 'usufructlaw05.ElimTells': WHATEVER THE INPUT: true; the input reads as it did. -/
def elimTellsSpec : ChangeSpec := { name := "elimTells", fn := fun _ => fun
  | [d1, d2, d3] => { results := [.lit (.bool true)], args := [d1, d2, d3] }
  | _ => none }
def elimTellsRow : OpenClaim := { program := "ythabkpkgocafoaa", sum := "30462681ee8b4a5180cffa95bc688fc9d9b82953b17de2d03e52096b4eedcc4a", func := "usufruct/usufructlaw05.ElimTells", spec := "elimTells", unfollowed := true, recurses := true, apart := false }
def ElimTellsSaid : Prop := elimTellsRow.holds Try.pinned (OpenSpec.ofChange elimTellsSpec)

/-- ITS FALSE NEIGHBOUR: 'it returns false'. Refute it at one input. -/
def elimTellsWrong : ChangeSpec := { name := "elimTells", fn := fun _ => fun
  | [d1, d2, d3] => { results := [.lit (.bool false)], args := [d1, d2, d3] }
  | _ => none }
def ElimTellsWrongFalsely : Prop := elimTellsRow.holds Try.pinned (OpenSpec.ofChange elimTellsWrong)

/-- 'usufructlaw05.ElimExact': WHATEVER THE INPUT: true; the input reads as it did. -/
def elimExactSpec : ChangeSpec := { name := "elimExact", fn := fun _ => fun
  | [d1, d2, d3, d4, d5] => { results := [.lit (.bool true)], args := [d1, d2, d3, d4, d5] }
  | _ => none }
def elimExactRow : OpenClaim := { program := "ythabkpkgocafoaa", sum := "30462681ee8b4a5180cffa95bc688fc9d9b82953b17de2d03e52096b4eedcc4a", func := "usufruct/usufructlaw05.ElimExact", spec := "elimExact", unfollowed := true, recurses := true, apart := false }
def ElimExactSaid : Prop := elimExactRow.holds Try.pinned (OpenSpec.ofChange elimExactSpec)

/-- ITS FALSE NEIGHBOUR: 'it returns false'. Refute it at one input. -/
def elimExactWrong : ChangeSpec := { name := "elimExact", fn := fun _ => fun
  | [d1, d2, d3, d4, d5] => { results := [.lit (.bool false)], args := [d1, d2, d3, d4, d5] }
  | _ => none }
def ElimExactWrongFalsely : Prop := elimExactRow.holds Try.pinned (OpenSpec.ofChange elimExactWrong)

/-- 'usufructlaw05.ElimAgain': WHATEVER THE INPUT: true; the input reads as it did. -/
def elimAgainSpec : ChangeSpec := { name := "elimAgain", fn := fun _ => fun
  | [d1, d2, d3] => { results := [.lit (.bool true)], args := [d1, d2, d3] }
  | _ => none }
def elimAgainRow : OpenClaim := { program := "ythabkpkgocafoaa", sum := "30462681ee8b4a5180cffa95bc688fc9d9b82953b17de2d03e52096b4eedcc4a", func := "usufruct/usufructlaw05.ElimAgain", spec := "elimAgain", unfollowed := true, recurses := true, apart := false }
def ElimAgainSaid : Prop := elimAgainRow.holds Try.pinned (OpenSpec.ofChange elimAgainSpec)

/-- ITS FALSE NEIGHBOUR: 'it returns false'. Refute it at one input. -/
def elimAgainWrong : ChangeSpec := { name := "elimAgain", fn := fun _ => fun
  | [d1, d2, d3] => { results := [.lit (.bool false)], args := [d1, d2, d3] }
  | _ => none }
def ElimAgainWrongFalsely : Prop := elimAgainRow.holds Try.pinned (OpenSpec.ofChange elimAgainWrong)

/- THE SECOND FORM. 'bulk': how many values and letters a reading holds, each counted each time it is reached (what is shared counts as often as it is met; a slice's spare places count too). A statement '..UptoSaid' is the law's where the arguments, and the package variables that the reading takes, are together of bulk at most 1048576: NARROWER than '..Said'. Prove '..Said' where nothing that the law and all that it calls make is longer than what came in: it says more and counts as full. Else prove '..UptoSaid'. A law counts once. -/
mutual
def uptoBulk {H : Type} : DataW H → Nat
  | .lit (.string bytes) => bytes.length + 1
  | .lit _ => 1
  | .nil => 1
  | .ptr d => uptoBulk d + 1
  | .slice elems spare => uptoBulkAll elems + uptoBulkAll spare + 1
  | .agg parts => uptoBulkAll parts + 1
  | .iface _ d => uptoBulk d + 1
  | .map entries => uptoBulkEntries entries + 1
  | .held _ => 1
def uptoBulkAll {H : Type} : List (DataW H) → Nat
  | [] => 0
  | d :: r => uptoBulk d + uptoBulkAll r
def uptoBulkEntries {H : Type} : List (Lit × DataW H) → Nat
  | [] => 0
  | x :: r => uptoBulkEntry x + uptoBulkEntries r
def uptoBulkEntry {H : Type} : Lit × DataW H → Nat
  | (.string bytes, d) => bytes.length + uptoBulk d + 1
  | (_, d) => uptoBulk d + 1
 end
def uptoSmall : (H : Type) → List (DataW H) → Bool := fun _ ds => decide (uptoBulkAll ds ≤ 1048576)
def OpenSpec.upto (s : _root_.Go.ChangeSpec) : _root_.Go.OpenSpec := { _root_.Go.OpenSpec.ofChange s with cond := some uptoSmall }

/-- 'usufructlaw04.LeastKnown', WHERE WHAT IT READS IS OF BULK AT MOST 1048576: true; the input reads as it did. -/
def leastKnownUptoRow : OpenClaim := { program := "ythabkpkgocafoaa", sum := "30462681ee8b4a5180cffa95bc688fc9d9b82953b17de2d03e52096b4eedcc4a", func := "usufruct/usufructlaw04.LeastKnown", spec := "leastKnown", unfollowed := true, recurses := true, apart := false, narrowed := true }
def LeastKnownUptoSaid : Prop := leastKnownUptoRow.holds Try.pinned (OpenSpec.upto leastKnownSpec)

/-- 'usufructlaw04.LeastSolves', WHERE WHAT IT READS IS OF BULK AT MOST 1048576: true; the input reads as it did. -/
def leastSolvesUptoRow : OpenClaim := { program := "ythabkpkgocafoaa", sum := "30462681ee8b4a5180cffa95bc688fc9d9b82953b17de2d03e52096b4eedcc4a", func := "usufruct/usufructlaw04.LeastSolves", spec := "leastSolves", unfollowed := true, recurses := true, apart := false, narrowed := true }
def LeastSolvesUptoSaid : Prop := leastSolvesUptoRow.holds Try.pinned (OpenSpec.upto leastSolvesSpec)

/-- 'usufructlaw04.LeastAgain', WHERE WHAT IT READS IS OF BULK AT MOST 1048576: true; the input reads as it did. -/
def leastAgainUptoRow : OpenClaim := { program := "ythabkpkgocafoaa", sum := "30462681ee8b4a5180cffa95bc688fc9d9b82953b17de2d03e52096b4eedcc4a", func := "usufruct/usufructlaw04.LeastAgain", spec := "leastAgain", unfollowed := true, recurses := true, apart := false, narrowed := true }
def LeastAgainUptoSaid : Prop := leastAgainUptoRow.holds Try.pinned (OpenSpec.upto leastAgainSpec)

/-- 'usufructlaw04.LeastCores', WHERE WHAT IT READS IS OF BULK AT MOST 1048576: true; the input reads as it did. -/
def leastCoresUptoRow : OpenClaim := { program := "ythabkpkgocafoaa", sum := "30462681ee8b4a5180cffa95bc688fc9d9b82953b17de2d03e52096b4eedcc4a", func := "usufruct/usufructlaw04.LeastCores", spec := "leastCores", unfollowed := true, recurses := true, apart := false, narrowed := true }
def LeastCoresUptoSaid : Prop := leastCoresUptoRow.holds Try.pinned (OpenSpec.upto leastCoresSpec)

/-- 'usufructlaw04.LeastBelow', WHERE WHAT IT READS IS OF BULK AT MOST 1048576: true; the input reads as it did. -/
def leastBelowUptoRow : OpenClaim := { program := "ythabkpkgocafoaa", sum := "30462681ee8b4a5180cffa95bc688fc9d9b82953b17de2d03e52096b4eedcc4a", func := "usufruct/usufructlaw04.LeastBelow", spec := "leastBelow", unfollowed := true, recurses := true, apart := false, narrowed := true }
def LeastBelowUptoSaid : Prop := leastBelowUptoRow.holds Try.pinned (OpenSpec.upto leastBelowSpec)

/-- 'usufructlaw05.ElimKnown', WHERE WHAT IT READS IS OF BULK AT MOST 1048576: true; the input reads as it did. -/
def elimKnownUptoRow : OpenClaim := { program := "ythabkpkgocafoaa", sum := "30462681ee8b4a5180cffa95bc688fc9d9b82953b17de2d03e52096b4eedcc4a", func := "usufruct/usufructlaw05.ElimKnown", spec := "elimKnown", unfollowed := true, recurses := true, apart := false, narrowed := true }
def ElimKnownUptoSaid : Prop := elimKnownUptoRow.holds Try.pinned (OpenSpec.upto elimKnownSpec)

/-- 'usufructlaw05.ElimTells', WHERE WHAT IT READS IS OF BULK AT MOST 1048576: true; the input reads as it did. -/
def elimTellsUptoRow : OpenClaim := { program := "ythabkpkgocafoaa", sum := "30462681ee8b4a5180cffa95bc688fc9d9b82953b17de2d03e52096b4eedcc4a", func := "usufruct/usufructlaw05.ElimTells", spec := "elimTells", unfollowed := true, recurses := true, apart := false, narrowed := true }
def ElimTellsUptoSaid : Prop := elimTellsUptoRow.holds Try.pinned (OpenSpec.upto elimTellsSpec)

/-- 'usufructlaw05.ElimExact', WHERE WHAT IT READS IS OF BULK AT MOST 1048576: true; the input reads as it did. -/
def elimExactUptoRow : OpenClaim := { program := "ythabkpkgocafoaa", sum := "30462681ee8b4a5180cffa95bc688fc9d9b82953b17de2d03e52096b4eedcc4a", func := "usufruct/usufructlaw05.ElimExact", spec := "elimExact", unfollowed := true, recurses := true, apart := false, narrowed := true }
def ElimExactUptoSaid : Prop := elimExactUptoRow.holds Try.pinned (OpenSpec.upto elimExactSpec)

/-- 'usufructlaw05.ElimAgain', WHERE WHAT IT READS IS OF BULK AT MOST 1048576: true; the input reads as it did. -/
def elimAgainUptoRow : OpenClaim := { program := "ythabkpkgocafoaa", sum := "30462681ee8b4a5180cffa95bc688fc9d9b82953b17de2d03e52096b4eedcc4a", func := "usufruct/usufructlaw05.ElimAgain", spec := "elimAgain", unfollowed := true, recurses := true, apart := false, narrowed := true }
def ElimAgainUptoSaid : Prop := elimAgainUptoRow.holds Try.pinned (OpenSpec.upto elimAgainSpec)

end Rows
end Go.Proofs.Ythabkpkgocafoaa
