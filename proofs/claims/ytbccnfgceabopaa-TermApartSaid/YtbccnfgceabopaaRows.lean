/-
  No cell of these rows narrows 'for every input' (looked for: loops, veiled, ifaces, maps, wideKeys, modest, calm, conditions, laid).
  DERIVED. THE GIVEN ROWS OF THIS SEAT. 4 by the template 'for every input the law returns true; each argument reads behind the call as it read before'; 0 by the template 'total and deterministic' (their statements: YtbccnfgceabopaaTotals.lean).
  GIVEN WITH THE SEED: the statements are not yours to turn. If you find one false, say at which input.
  Laid BY PROGRAM, IN A SANDBOX (cutbox-rows.mjs): the forced cells as the released guide's own fill.sh prints them over the translation 3fdec85093c621ce… (all of the seat's roots in one cut). By AI agents, Wed Nov 11 2026. No macro, syntax, notation, axiom, sorry.
-/
import Derived.Test.YtbccnfgceabopaaChecked
import GoSem.Claim
import GoSem.ClaimJoined
import GoSem.ClaimMapViews
import Derived.JoinedTies
import Derived.KernelRfl
namespace Go.Proofs.Ytbccnfgceabopaa
/- THE CELL 'sum', in the pinned program and in every row, IS THE sha256 OF THE DUMP (.gsa) THAT YtbccnfgceabopaaProg.lean LOADS. Nothing in Lean hashes anything: it is a label: what it is worth is what the hold of that sum in a sandbox is worth. -/
noncomputable def Try.pinned : Pinned := { name := "ytbccnfgceabopaa", sum := "3fdec85093c621cecbdd1158f1a849f9bde1856f35ae06c42ef8ab9d5fef1f01", checked := Try.checked }
namespace Rows
def none {H : Type} : Left H := { results := [], args := [] }

/-- 'usufructlaw02.TermApart': WHATEVER THE INPUT: true; the input reads as it did. -/
def termApartSpec : ChangeSpec := { name := "termApart", fn := fun _ => fun
  | [d1, d2] => { results := [.lit (.bool true)], args := [d1, d2] }
  | _ => none }
def termApartRow : OpenClaim := { program := "ytbccnfgceabopaa", sum := "3fdec85093c621cecbdd1158f1a849f9bde1856f35ae06c42ef8ab9d5fef1f01", func := "usufruct/usufructlaw02.TermApart", spec := "termApart", unfollowed := true, recurses := true, apart := false }
def TermApartSaid : Prop := termApartRow.holds Try.pinned (OpenSpec.ofChange termApartSpec)

/-- ITS FALSE NEIGHBOUR: 'it returns false'. Refute it at one input. -/
def termApartWrong : ChangeSpec := { name := "termApart", fn := fun _ => fun
  | [d1, d2] => { results := [.lit (.bool false)], args := [d1, d2] }
  | _ => none }
def TermApartWrongFalsely : Prop := termApartRow.holds Try.pinned (OpenSpec.ofChange termApartWrong)

/-- 'usufructlaw02.TermLists': WHATEVER THE INPUT: true; the input reads as it did. -/
def termListsSpec : ChangeSpec := { name := "termLists", fn := fun _ => fun
  | [d] => { results := [.lit (.bool true)], args := [d] }
  | _ => none }
def termListsRow : OpenClaim := { program := "ytbccnfgceabopaa", sum := "3fdec85093c621cecbdd1158f1a849f9bde1856f35ae06c42ef8ab9d5fef1f01", func := "usufruct/usufructlaw02.TermLists", spec := "termLists", unfollowed := true, recurses := true, apart := false }
def TermListsSaid : Prop := termListsRow.holds Try.pinned (OpenSpec.ofChange termListsSpec)

/-- ITS FALSE NEIGHBOUR: 'it returns false'. Refute it at one input. -/
def termListsWrong : ChangeSpec := { name := "termLists", fn := fun _ => fun
  | [d] => { results := [.lit (.bool false)], args := [d] }
  | _ => none }
def TermListsWrongFalsely : Prop := termListsRow.holds Try.pinned (OpenSpec.ofChange termListsWrong)

/-- 'usufructlaw02.TermAt': WHATEVER THE INPUT: true; the input reads as it did. -/
def termAtSpec : ChangeSpec := { name := "termAt", fn := fun _ => fun
  | [d1, d2, d3] => { results := [.lit (.bool true)], args := [d1, d2, d3] }
  | _ => none }
def termAtRow : OpenClaim := { program := "ytbccnfgceabopaa", sum := "3fdec85093c621cecbdd1158f1a849f9bde1856f35ae06c42ef8ab9d5fef1f01", func := "usufruct/usufructlaw02.TermAt", spec := "termAt", unfollowed := true, recurses := true, apart := false }
def TermAtSaid : Prop := termAtRow.holds Try.pinned (OpenSpec.ofChange termAtSpec)

/-- ITS FALSE NEIGHBOUR: 'it returns false'. Refute it at one input. -/
def termAtWrong : ChangeSpec := { name := "termAt", fn := fun _ => fun
  | [d1, d2, d3] => { results := [.lit (.bool false)], args := [d1, d2, d3] }
  | _ => none }
def TermAtWrongFalsely : Prop := termAtRow.holds Try.pinned (OpenSpec.ofChange termAtWrong)

/-- 'usufructlaw02.TermMeans': WHATEVER THE INPUT: true; the input reads as it did. -/
def termMeansSpec : ChangeSpec := { name := "termMeans", fn := fun _ => fun
  | [d1, d2, d3, d4] => { results := [.lit (.bool true)], args := [d1, d2, d3, d4] }
  | _ => none }
def termMeansRow : OpenClaim := { program := "ytbccnfgceabopaa", sum := "3fdec85093c621cecbdd1158f1a849f9bde1856f35ae06c42ef8ab9d5fef1f01", func := "usufruct/usufructlaw02.TermMeans", spec := "termMeans", unfollowed := true, recurses := true, apart := false }
def TermMeansSaid : Prop := termMeansRow.holds Try.pinned (OpenSpec.ofChange termMeansSpec)

/-- ITS FALSE NEIGHBOUR: 'it returns false'. Refute it at one input. -/
def termMeansWrong : ChangeSpec := { name := "termMeans", fn := fun _ => fun
  | [d1, d2, d3, d4] => { results := [.lit (.bool false)], args := [d1, d2, d3, d4] }
  | _ => none }
def TermMeansWrongFalsely : Prop := termMeansRow.holds Try.pinned (OpenSpec.ofChange termMeansWrong)

/- THE SECOND FORM. 'bulk': how many values and letters a reading holds, each counted each time it is reached (what is shared counts as often as it is met; a slice's spare places count too). A statement '..UptoSaid' is the law's where the arguments, and the package variables that the reading takes, are together of bulk at most 1048576: NARROWER than '..Said'. Prove '..Said' where nothing that the law and all that it calls make is longer than what came in: it says more and counts as full. Else prove '..UptoSaid'. A law counts once. -/
mutual
def uptoBulk {H : Type} : DataW H → Nat
  | .lit (.string bytes) => bytes.length + 1
  | .lit _ => 1
  | .nil => 1
  | .ptr d => uptoBulk d + 1
  | .slice elems spare => uptoBulkAll elems + uptoBulkAll spare + 1
  | .agg parts => uptoBulkAll parts + 1
  | .iface _ d => uptoBulk d + 1
  | .map entries => uptoBulkEntries entries + 1
  | .held _ => 1
def uptoBulkAll {H : Type} : List (DataW H) → Nat
  | [] => 0
  | d :: r => uptoBulk d + uptoBulkAll r
def uptoBulkEntries {H : Type} : List (Lit × DataW H) → Nat
  | [] => 0
  | x :: r => uptoBulkEntry x + uptoBulkEntries r
def uptoBulkEntry {H : Type} : Lit × DataW H → Nat
  | (.string bytes, d) => bytes.length + uptoBulk d + 1
  | (_, d) => uptoBulk d + 1
 end
def uptoSmall : (H : Type) → List (DataW H) → Bool := fun _ ds => decide (uptoBulkAll ds ≤ 1048576)
def OpenSpec.upto (s : _root_.Go.ChangeSpec) : _root_.Go.OpenSpec := { _root_.Go.OpenSpec.ofChange s with cond := some uptoSmall }

/-- 'usufructlaw02.TermApart', WHERE WHAT IT READS IS OF BULK AT MOST 1048576: true; the input reads as it did. -/
def termApartUptoRow : OpenClaim := { program := "ytbccnfgceabopaa", sum := "3fdec85093c621cecbdd1158f1a849f9bde1856f35ae06c42ef8ab9d5fef1f01", func := "usufruct/usufructlaw02.TermApart", spec := "termApart", unfollowed := true, recurses := true, apart := false, narrowed := true }
def TermApartUptoSaid : Prop := termApartUptoRow.holds Try.pinned (OpenSpec.upto termApartSpec)

/-- 'usufructlaw02.TermLists', WHERE WHAT IT READS IS OF BULK AT MOST 1048576: true; the input reads as it did. -/
def termListsUptoRow : OpenClaim := { program := "ytbccnfgceabopaa", sum := "3fdec85093c621cecbdd1158f1a849f9bde1856f35ae06c42ef8ab9d5fef1f01", func := "usufruct/usufructlaw02.TermLists", spec := "termLists", unfollowed := true, recurses := true, apart := false, narrowed := true }
def TermListsUptoSaid : Prop := termListsUptoRow.holds Try.pinned (OpenSpec.upto termListsSpec)

/-- 'usufructlaw02.TermAt', WHERE WHAT IT READS IS OF BULK AT MOST 1048576: true; the input reads as it did. -/
def termAtUptoRow : OpenClaim := { program := "ytbccnfgceabopaa", sum := "3fdec85093c621cecbdd1158f1a849f9bde1856f35ae06c42ef8ab9d5fef1f01", func := "usufruct/usufructlaw02.TermAt", spec := "termAt", unfollowed := true, recurses := true, apart := false, narrowed := true }
def TermAtUptoSaid : Prop := termAtUptoRow.holds Try.pinned (OpenSpec.upto termAtSpec)

/-- 'usufructlaw02.TermMeans', WHERE WHAT IT READS IS OF BULK AT MOST 1048576: true; the input reads as it did. -/
def termMeansUptoRow : OpenClaim := { program := "ytbccnfgceabopaa", sum := "3fdec85093c621cecbdd1158f1a849f9bde1856f35ae06c42ef8ab9d5fef1f01", func := "usufruct/usufructlaw02.TermMeans", spec := "termMeans", unfollowed := true, recurses := true, apart := false, narrowed := true }
def TermMeansUptoSaid : Prop := termMeansUptoRow.holds Try.pinned (OpenSpec.upto termMeansSpec)

end Rows
end Go.Proofs.Ytbccnfgceabopaa
