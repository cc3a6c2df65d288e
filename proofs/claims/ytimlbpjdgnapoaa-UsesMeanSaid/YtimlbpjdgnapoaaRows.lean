/-
  No cell of these rows narrows 'for every input' (looked for: loops, veiled, ifaces, maps, wideKeys, modest, calm, conditions, laid).
  DERIVED. THE GIVEN ROWS OF THIS SEAT. 5 by the template 'for every input the law returns true; each argument reads behind the call as it read before'; 0 by the template 'total and deterministic' (their statements: YtimlbpjdgnapoaaTotals.lean).
  GIVEN WITH THE SEED: the statements are not yours to turn. If you find one false, say at which input.
  Laid BY PROGRAM, IN A SANDBOX (cutbox-rows.mjs): the forced cells as the released guide's own fill.sh prints them over the translation cc957dbc2d1a7de0… (all of the seat's roots in one cut). By AI agents, Wed Nov 11 2026. No macro, syntax, notation, axiom, sorry.
-/
import Derived.Test.YtimlbpjdgnapoaaChecked
import GoSem.Claim
import GoSem.ClaimJoined
import GoSem.ClaimMapViews
import Derived.JoinedTies
import Derived.KernelRfl
namespace Go.Proofs.Ytimlbpjdgnapoaa
/- THE CELL 'sum', in the pinned program and in every row, IS THE sha256 OF THE DUMP (.gsa) THAT YtimlbpjdgnapoaaProg.lean LOADS. Nothing in Lean hashes anything: it is a label: what it is worth is what the hold of that sum in a sandbox is worth. -/
noncomputable def Try.pinned : Pinned := { name := "ytimlbpjdgnapoaa", sum := "cc957dbc2d1a7de0601ee1b3b2e601625de88e46ec33f4d02a5c5dfc30d5f0de", checked := Try.checked }
namespace Rows
def none {H : Type} : Left H := { results := [], args := [] }

/-- 'usufructlaw17.UsesLists': WHATEVER THE INPUT: true; the input reads as it did. -/
def usesListsSpec : ChangeSpec := { name := "usesLists", fn := fun _ => fun
  | [d] => { results := [.lit (.bool true)], args := [d] }
  | _ => none }
def usesListsRow : OpenClaim := { program := "ytimlbpjdgnapoaa", sum := "cc957dbc2d1a7de0601ee1b3b2e601625de88e46ec33f4d02a5c5dfc30d5f0de", func := "usufruct/usufructlaw17.UsesLists", spec := "usesLists", unfollowed := true, recurses := true, apart := false }
def UsesListsSaid : Prop := usesListsRow.holds Try.pinned (OpenSpec.ofChange usesListsSpec)

/-- ITS FALSE NEIGHBOUR: 'it returns false'. Refute it at one input. -/
def usesListsWrong : ChangeSpec := { name := "usesLists", fn := fun _ => fun
  | [d] => { results := [.lit (.bool false)], args := [d] }
  | _ => none }
def UsesListsWrongFalsely : Prop := usesListsRow.holds Try.pinned (OpenSpec.ofChange usesListsWrong)

/-- 'usufructlaw17.UsesOrder': WHATEVER THE INPUT: true; the input reads as it did. -/
def usesOrderSpec : ChangeSpec := { name := "usesOrder", fn := fun _ => fun
  | [d1, d2, d3, d4] => { results := [.lit (.bool true)], args := [d1, d2, d3, d4] }
  | _ => none }
def usesOrderRow : OpenClaim := { program := "ytimlbpjdgnapoaa", sum := "cc957dbc2d1a7de0601ee1b3b2e601625de88e46ec33f4d02a5c5dfc30d5f0de", func := "usufruct/usufructlaw17.UsesOrder", spec := "usesOrder", unfollowed := true, recurses := true, apart := false }
def UsesOrderSaid : Prop := usesOrderRow.holds Try.pinned (OpenSpec.ofChange usesOrderSpec)

/-- ITS FALSE NEIGHBOUR: 'it returns false'. Refute it at one input. -/
def usesOrderWrong : ChangeSpec := { name := "usesOrder", fn := fun _ => fun
  | [d1, d2, d3, d4] => { results := [.lit (.bool false)], args := [d1, d2, d3, d4] }
  | _ => none }
def UsesOrderWrongFalsely : Prop := usesOrderRow.holds Try.pinned (OpenSpec.ofChange usesOrderWrong)

/-- 'usufructlaw17.UsesKnown': WHATEVER THE INPUT: true; the input reads as it did. -/
def usesKnownSpec : ChangeSpec := { name := "usesKnown", fn := fun _ => fun
  | [] => { results := [.lit (.bool true)], args := [] }
  | _ => none }
def usesKnownRow : OpenClaim := { program := "ytimlbpjdgnapoaa", sum := "cc957dbc2d1a7de0601ee1b3b2e601625de88e46ec33f4d02a5c5dfc30d5f0de", func := "usufruct/usufructlaw17.UsesKnown", spec := "usesKnown", unfollowed := true, recurses := true, apart := false }
def UsesKnownSaid : Prop := usesKnownRow.holds Try.pinned (OpenSpec.ofChange usesKnownSpec)

/-- ITS FALSE NEIGHBOUR: 'it returns false'. Refute it at one input. -/
def usesKnownWrong : ChangeSpec := { name := "usesKnown", fn := fun _ => fun
  | [] => { results := [.lit (.bool false)], args := [] }
  | _ => none }
def UsesKnownWrongFalsely : Prop := usesKnownRow.holds Try.pinned (OpenSpec.ofChange usesKnownWrong)

/-- 'usufructlaw17.UsesOps': WHATEVER THE INPUT: true; the input reads as it did. -/
def usesOpsSpec : ChangeSpec := { name := "usesOps", fn := fun _ => fun
  | [d1, d2, d3, d4, d5] => { results := [.lit (.bool true)], args := [d1, d2, d3, d4, d5] }
  | _ => none }
def usesOpsRow : OpenClaim := { program := "ytimlbpjdgnapoaa", sum := "cc957dbc2d1a7de0601ee1b3b2e601625de88e46ec33f4d02a5c5dfc30d5f0de", func := "usufruct/usufructlaw17.UsesOps", spec := "usesOps", unfollowed := true, recurses := true, apart := false }
def UsesOpsSaid : Prop := usesOpsRow.holds Try.pinned (OpenSpec.ofChange usesOpsSpec)

/-- ITS FALSE NEIGHBOUR: 'it returns false'. Refute it at one input. -/
def usesOpsWrong : ChangeSpec := { name := "usesOps", fn := fun _ => fun
  | [d1, d2, d3, d4, d5] => { results := [.lit (.bool false)], args := [d1, d2, d3, d4, d5] }
  | _ => none }
def UsesOpsWrongFalsely : Prop := usesOpsRow.holds Try.pinned (OpenSpec.ofChange usesOpsWrong)

/-- 'usufructlaw17.UsesMean': WHATEVER THE INPUT: true; the input reads as it did. -/
def usesMeanSpec : ChangeSpec := { name := "usesMean", fn := fun _ => fun
  | [d1, d2, d3, d4, d5, d6] => { results := [.lit (.bool true)], args := [d1, d2, d3, d4, d5, d6] }
  | _ => none }
def usesMeanRow : OpenClaim := { program := "ytimlbpjdgnapoaa", sum := "cc957dbc2d1a7de0601ee1b3b2e601625de88e46ec33f4d02a5c5dfc30d5f0de", func := "usufruct/usufructlaw17.UsesMean", spec := "usesMean", unfollowed := true, recurses := true, apart := false }
def UsesMeanSaid : Prop := usesMeanRow.holds Try.pinned (OpenSpec.ofChange usesMeanSpec)

/-- ITS FALSE NEIGHBOUR: 'it returns false'. Refute it at one input. -/
def usesMeanWrong : ChangeSpec := { name := "usesMean", fn := fun _ => fun
  | [d1, d2, d3, d4, d5, d6] => { results := [.lit (.bool false)], args := [d1, d2, d3, d4, d5, d6] }
  | _ => none }
def UsesMeanWrongFalsely : Prop := usesMeanRow.holds Try.pinned (OpenSpec.ofChange usesMeanWrong)

/- THE SECOND FORM. 'bulk': how many values and letters a reading holds, each counted each time it is reached (what is shared counts as often as it is met; a slice's spare places count too). A statement '..UptoSaid' is the law's where the arguments, and the package variables that the reading takes, are together of bulk at most 1048576: NARROWER than '..Said'. Prove '..Said' where nothing that the law and all that it calls make is longer than what came in: it says more and counts as full. Else prove '..UptoSaid'. A law counts once. -/
mutual
def uptoBulk {H : Type} : DataW H → Nat
  | .lit (.string bytes) => bytes.length + 1
  | .lit _ => 1
  | .nil => 1
  | .ptr d => uptoBulk d + 1
  | .slice elems spare => uptoBulkAll elems + uptoBulkAll spare + 1
  | .agg parts => uptoBulkAll parts + 1
  | .iface _ d => uptoBulk d + 1
  | .map entries => uptoBulkEntries entries + 1
  | .held _ => 1
def uptoBulkAll {H : Type} : List (DataW H) → Nat
  | [] => 0
  | d :: r => uptoBulk d + uptoBulkAll r
def uptoBulkEntries {H : Type} : List (Lit × DataW H) → Nat
  | [] => 0
  | x :: r => uptoBulkEntry x + uptoBulkEntries r
def uptoBulkEntry {H : Type} : Lit × DataW H → Nat
  | (.string bytes, d) => bytes.length + uptoBulk d + 1
  | (_, d) => uptoBulk d + 1
 end
def uptoSmall : (H : Type) → List (DataW H) → Bool := fun _ ds => decide (uptoBulkAll ds ≤ 1048576)
def OpenSpec.upto (s : _root_.Go.ChangeSpec) : _root_.Go.OpenSpec := { _root_.Go.OpenSpec.ofChange s with cond := some uptoSmall }

/-- 'usufructlaw17.UsesLists', WHERE WHAT IT READS IS OF BULK AT MOST 1048576: true; the input reads as it did. -/
def usesListsUptoRow : OpenClaim := { program := "ytimlbpjdgnapoaa", sum := "cc957dbc2d1a7de0601ee1b3b2e601625de88e46ec33f4d02a5c5dfc30d5f0de", func := "usufruct/usufructlaw17.UsesLists", spec := "usesLists", unfollowed := true, recurses := true, apart := false, narrowed := true }
def UsesListsUptoSaid : Prop := usesListsUptoRow.holds Try.pinned (OpenSpec.upto usesListsSpec)

/-- 'usufructlaw17.UsesOrder', WHERE WHAT IT READS IS OF BULK AT MOST 1048576: true; the input reads as it did. -/
def usesOrderUptoRow : OpenClaim := { program := "ytimlbpjdgnapoaa", sum := "cc957dbc2d1a7de0601ee1b3b2e601625de88e46ec33f4d02a5c5dfc30d5f0de", func := "usufruct/usufructlaw17.UsesOrder", spec := "usesOrder", unfollowed := true, recurses := true, apart := false, narrowed := true }
def UsesOrderUptoSaid : Prop := usesOrderUptoRow.holds Try.pinned (OpenSpec.upto usesOrderSpec)

/-- 'usufructlaw17.UsesKnown', WHERE WHAT IT READS IS OF BULK AT MOST 1048576: true; the input reads as it did. -/
def usesKnownUptoRow : OpenClaim := { program := "ytimlbpjdgnapoaa", sum := "cc957dbc2d1a7de0601ee1b3b2e601625de88e46ec33f4d02a5c5dfc30d5f0de", func := "usufruct/usufructlaw17.UsesKnown", spec := "usesKnown", unfollowed := true, recurses := true, apart := false, narrowed := true }
def UsesKnownUptoSaid : Prop := usesKnownUptoRow.holds Try.pinned (OpenSpec.upto usesKnownSpec)

/-- 'usufructlaw17.UsesOps', WHERE WHAT IT READS IS OF BULK AT MOST 1048576: true; the input reads as it did. -/
def usesOpsUptoRow : OpenClaim := { program := "ytimlbpjdgnapoaa", sum := "cc957dbc2d1a7de0601ee1b3b2e601625de88e46ec33f4d02a5c5dfc30d5f0de", func := "usufruct/usufructlaw17.UsesOps", spec := "usesOps", unfollowed := true, recurses := true, apart := false, narrowed := true }
def UsesOpsUptoSaid : Prop := usesOpsUptoRow.holds Try.pinned (OpenSpec.upto usesOpsSpec)

/-- 'usufructlaw17.UsesMean', WHERE WHAT IT READS IS OF BULK AT MOST 1048576: true; the input reads as it did. -/
def usesMeanUptoRow : OpenClaim := { program := "ytimlbpjdgnapoaa", sum := "cc957dbc2d1a7de0601ee1b3b2e601625de88e46ec33f4d02a5c5dfc30d5f0de", func := "usufruct/usufructlaw17.UsesMean", spec := "usesMean", unfollowed := true, recurses := true, apart := false, narrowed := true }
def UsesMeanUptoSaid : Prop := usesMeanUptoRow.holds Try.pinned (OpenSpec.upto usesMeanSpec)

end Rows
end Go.Proofs.Ytimlbpjdgnapoaa
