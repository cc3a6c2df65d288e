/- slices.Sort over a row of ints of the call's own. -/
import Derived.Test.YthabkpkgocafoaaShelf
import Derived.Test.YthabkpkgocafoaaMem
import Derived.Sort.OwnSortedInts
namespace Go.Proofs.Ythabkpkgocafoaa
set_option linter.unusedVariables false
set_option linter.unusedSimpArgs false
open Go.RowKit Go.Sort

theorem sortI_any (base : Nat) (v : Value) (us : List Int) (w : World) (ho : w.ownsRow base 3 1 v us.length (us.map (Value.int .i64))) (hne : us ≠ []) (hm : us.length < 4611686018427387904) :
    Calls Try.prog 66 #[v] w fun e w' => e = .returned (.tuple #[]) ∧ w'.ownsRow base 3 1 v us.length ((us.mergeSort fun x y => decide (x ≤ y)).map (Value.int .i64)) ∧ w.grownBy w' v.ownBlock := by
  have hn0 : us.length ≠ 0 := fun e => hne (List.eq_nil_of_length_eq_zero e)
  have hv : v ≠ .slice none 0 0 := by
    rintro rfl
    rcases ho.2 with ⟨_, e⟩ | ⟨_, _, _, e, _⟩
    · exact hn0 e
    · cases e
  obtain ⟨g, cap, rfl, hg1, hg2, hgc, hgm, hl, hH⟩ := Lib.holds_of_ownsRow ho hv
  have hsort := Try.slices_Sort_int g 0 cap us w hH hg2 hm
  refine hsort.mono ?_
  rintro e w2 ⟨rfl, q, os, hw2⟩
  have hls : (us.mergeSort fun x y => decide (x ≤ y)).length = us.length := List.length_mergeSort _
  refine ⟨rfl, ?_, ?_⟩
  · rcases ho.2 with ⟨e0, _⟩ | ⟨g', cap', cur, e0, hb', hgg, hn', hm', hs', ht'⟩
    · cases e0
    · injection e0 with e1 _ e3
      injection e1 with e1
      injection e1 with e1
      subst e1; subst e3
      rw [hw2]
      exact ownsRow_sortedI hls hg1 hgg hgc hgm hs'
  · rw [hw2]; exact grownBy_sortedI _

end Go.Proofs.Ythabkpkgocafoaa
