/- What term.clean, Join, Sum, Scale return lies in memory of its own (or is nothing). -/
import Derived.Test.YtimlbpjdgnapoaaTermC
import Derived.Test.YtimlbpjdgnapoaaTermG
import Derived.Test.YtimlbpjdgnapoaaTermH
import Derived.Test.YtimlbpjdgnapoaaTermK
import Derived.Test.YtimlbpjdgnapoaaShelf
import Derived.Test.YtimlbpjdgnapoaaTermDef
import Derived.Test.YtimlbpjdgnapoaaMem
import Derived.Sort.OwnSortedInts
import Derived.Lib.OwnBridge
namespace Go.Proofs.Ytimlbpjdgnapoaa
set_option linter.unusedVariables false
set_option linter.unusedSimpArgs false
open Go.RowKit Go.Sort

/-- the call returns the term t, its variables in memory that the call laid -/
def RetF (t : TermD) (w : World) (e : Ending) (w' : World) : Prop :=
  ∃ A n c, e = .returned (.agg #[.bool t.never, .int .u8 t.c, .slice A n c]) ∧ RdI .i64 w' w'.heap.size A n c t.vars ∧ Below w.heap.size w w' ∧ (0 < n → ∃ a, A = some a ∧ w.heap.size ≤ a.block)
/-- the same, and the error x -/
def RetFE (t : TermD) (x : Int) (w : World) (e : Ending) (w' : World) : Prop :=
  ∃ A n c, e = .returned (.tuple #[.agg #[.bool t.never, .int .u8 t.c, .slice A n c], .int .i64 x]) ∧ RdI .i64 w' w'.heap.size A n c t.vars ∧ Below w.heap.size w w' ∧ (0 < n → ∃ a, A = some a ∧ w.heap.size ≤ a.block)

set_option maxHeartbeats 400000 in
theorem clean_fresh (tc : Int) (A : Option Addr) (n cp : Nat) (vs : List Int) (w : World) (B : Nat) (hr : RdI .i64 w B A n cp vs) (hB : B ≤ w.heap.size) (hbig : n * 8 ≤ 140737488355328) :
    Calls Try.prog 73 #[.int .u8 tc, .slice A n cp] w (RetF (cleanT tc vs) w) := by
  have hlen := hr.len
  have Hlen := Lib.hid hlen
  clear hlen
  by_cases h : tc = 3 ∨ vs = []
  · have hc : cleanT tc vs = ⟨false, tc, []⟩ := by unfold cleanT; rw [if_pos h]
    rw [hc]
    have hcase : (tc == 3) = true ∨ ((tc == 3) = false ∧ n = 0) := by
      by_cases h3 : tc = 3
      · exact .inl (by simp [h3])
      · refine .inr ⟨by simp [h3], ?_⟩
        rcases h with h | h
        · exact absurd h h3
        · rw [← Hlen.out, h]; rfl
    clear h hc
    have hbel : Below w.heap.size w (w.alloc (Obj.cells #[.bool false, .int .u8 tc, .slice none 0 0] 37)) := (Below.refl _ _).alloc (Nat.le_refl _) _
    rcases hcase with h | ⟨h, h0⟩
    · go_enter Try.func73, Try.ntmps73
      go_wp2_with fail
      exact bodyPost_ret (v := .agg #[.bool false, .int .u8 tc, .slice none 0 0]) (by simp [results, Try.results73, go_sem]) rfl ⟨none, 0, 0, rfl, RdI.nil, hbel, fun h => absurd h (by omega)⟩
    · subst h0
      go_enter Try.func73, Try.ntmps73
      go_wp2_with fail
      exact bodyPost_ret (v := .agg #[.bool false, .int .u8 tc, .slice none 0 0]) (by simp [results, Try.results73, go_sem]) rfl ⟨none, 0, 0, rfl, RdI.nil, hbel, fun h => absurd h (by omega)⟩
  · have hc : cleanT tc vs = ⟨false, tc, sset vs⟩ := by unfold cleanT; rw [if_neg h]
    rw [hc]
    have h1 : (tc == 3) = false := by simp; exact fun e => h (.inl e)
    have hn0 : n ≠ 0 := fun e => h (.inr (List.eq_nil_of_length_eq_zero (by rw [Hlen.out, e])))
    have h2 : ((n : Int) == 0) = false := by simp; omega
    clear h hc
    obtain ⟨b, off, rfl, hb, hcell⟩ := hr.at_ (by omega)
    have hnc := hr.2.1
    have hcm := hr.2.2
    have hclone := Try.slices_Clone_int b off n cp vs (w.alloc (Obj.cells #[.bool false, .int .u8 0, .slice none 0 0] 37)) (by rw [Hlen.out]; exact Nat.le_refl _) hbig (fun j hj => by
      rw [World.cell?_alloc_lt _ _ _ (by show b < w.heap.size; omega), hcell j hj]
      simp [List.getD, hj])
    have Hclone := Lib.hid hclone
    clear hclone hcell
    go_enter Try.func73, Try.ntmps73
    go_wp2_with fail
    refine Hclone.out.mono ?_
    rintro e w1 ⟨v', rfl, hown, hne, hb1⟩
    rw [show vs.take n = vs from List.take_of_length_le (by rw [Hlen.out]; exact Nat.le_refl _)] at hown
    obtain ⟨g, cap, rfl, hg1, hg2, hgc, hgm, hl, hH⟩ := Lib.holds_of_ownsRow hown hne
    simp only [World.size_alloc] at hg1 hown hb1
    have hself : Blk w1 w.heap.size 37 #[.bool false, .int .u8 0, .slice none 0 0] := by
      show w1.heap[w.heap.size]? = _
      rw [hb1.block _ (Nat.lt_succ_self _)]
      exact heap_alloc_new w _
    have hbel1 : Below w.heap.size w w1 := ((Below.refl _ _).alloc (Nat.le_refl _) _).trans (hb1.mono (Nat.le_succ _))
    clear hb1 hne Hclone hr
    have hsort := Try.slices_Sort_int g 0 cap vs w1 hH hg2 (by rw [hl]; omega)
    rw [hl] at hsort
    have Hsort := Lib.hid hsort
    clear hsort hH
    go_wp2_with fail
    refine Hsort.out.mono ?_
    rintro e w2 ⟨rfl, q, os, hw2⟩
    have hls : (vs.mergeSort fun x y => decide (x ≤ y)).length = vs.length := List.length_mergeSort _
    have hown2 : w2.ownsRow (w.heap.size + 1) 3 1 (.slice (some ⟨g, 0, none⟩) vs.length cap) vs.length ((vs.mergeSort fun x y => decide (x ≤ y)).map (Value.int .i64)) := by
      rcases hown.2 with ⟨e0, _⟩ | ⟨g', cap', cur, e0, hb', hgg, hn', hm', hs', ht'⟩
      · cases e0
      · injection e0 with e1 _ e3
        injection e1 with e1
        injection e1 with e1
        subst e1; subst e3
        rw [hw2]
        exact ownsRow_sortedI hls hg1 hgg (by rw [hl]; exact hgc) hgm hs'
    have hgb : w1.grownBy w2 (some g) := by rw [hw2]; exact grownBy_sortedI _
    have hbel2 := hbel1.grown hgb hbel1.size (fun k hk => by injection hk with hk; omega)
    have hself2 := hself.grown hgb (by simp; omega)
    have hg3 : g < w2.heap.size := Nat.lt_of_lt_of_le hg2 hgb.size
    clear hw2 hown hself hbel1 hgb hg2 Hsort
    rw [hl] at hown2 hls
    have hH2 : Holds (Value.int .i64) w2 g 0 (vs.mergeSort fun x y => decide (x ≤ y)).toArray := by
      obtain ⟨g2, cap2, e2, _, _, _, _, _, hH2⟩ := Lib.holds_of_ownsRow hown2 (by simp)
      injection e2 with e2 _ _
      injection e2 with e2
      injection e2 with e2
      subst e2
      exact hH2
    have hcomp := Try.slices_Compact_int g 0 cap (vs.mergeSort fun x y => decide (x ≤ y)) w2 hH2 (by rw [hls]; omega) (by rw [hls]; exact hgc)
    rw [hls] at hcomp
    have hk : (sset vs).length ≤ n := by have := compact_le (vs.mergeSort fun x y => decide (x ≤ y)); rw [hls] at this; exact this
    have hcomp' : Calls Try.prog 63 #[.slice (some ⟨g, 0, none⟩) n cap] w2 fun e w' => e = .returned (.slice (some ⟨g, 0, none⟩) (sset vs).length cap) ∧
        (w'.ownsRow (w.heap.size + 1) 3 1 (.slice (some ⟨g, 0, none⟩) (sset vs).length cap) (sset vs).length ((sset vs).map (Value.int .i64)) ∧ Below w.heap.size w w' ∧ Blk w' w.heap.size 37 #[.bool false, .int .u8 0, .slice none 0 0]) := by
      refine hcomp.mono ?_
      rintro e w3 ⟨rfl, q3, hw3⟩
      refine ⟨rfl, ?_, ?_, ?_⟩
      · have h3 := Lib.ownsRow_putRow (q := q3) (k := (sset vs).length) hown2 (ys := Lib.compact (vs.mergeSort fun x y => decide (x ≤ y)) ++ List.replicate (n - (Lib.compact (vs.mergeSort fun x y => decide (x ≤ y))).length) 0) (by
          rw [List.length_append, List.length_replicate]
          show (sset vs).length + (n - (sset vs).length) = n
          omega) hk
        have etake : (Lib.compact (vs.mergeSort fun x y => decide (x ≤ y)) ++ List.replicate (n - (Lib.compact (vs.mergeSort fun x y => decide (x ≤ y))).length) 0).take (sset vs).length = sset vs := List.take_left' rfl
        rw [etake] at h3
        rw [hw3]
        exact h3
      · rw [hw3]
        exact Lib.below_putRow hbel2 (by omega)
      · refine hself2.below (B := w.heap.size + 1) ?_ (Nat.lt_succ_self _)
        rw [hw3]
        exact Lib.below_putRow (Below.refl _ _) hg1
    have Hcomp := Lib.hid hcomp'
    clear hcomp hcomp' hH2 hown2 hself2 hbel2
    go_wp2_with fail
    refine Hcomp.out.mono ?_
    rintro e w3 ⟨rfl, hown3, hbel3, hself3⟩
    have c0 : w3.cell? ⟨w.heap.size, 0, none⟩ = some (.bool false) := hself3.cell 0
    have c1 : w3.cell? ⟨w.heap.size, 1, none⟩ = some (.int .u8 0) := hself3.cell 1
    have c2 : w3.cell? ⟨w.heap.size, 2, none⟩ = some (.slice none 0 0) := hself3.cell 2
    have f0 := hself3.frozen 0
    have f1 := hself3.frozen 1
    have f2 := hself3.frozen 2
    clear Hcomp
    go_wp2_with fail
    have hgw : w.heap.size ≤ g := by omega
    have hs := hself3.set3 (.bool false) (.int .u8 tc) (.slice (some ⟨g, 0, none⟩) (sset vs).length cap)
    have ho := ownsRow_setCell_below (ownsRow_setCell_below (ownsRow_setCell_below hown3 (a := ⟨w.heap.size, 0, none⟩) (Nat.lt_succ_self _) (.bool false)) (a := ⟨w.heap.size, 1, none⟩) (Nat.lt_succ_self _) (.int .u8 tc)) (a := ⟨w.heap.size, 2, none⟩) (Nat.lt_succ_self _) (.slice (some ⟨g, 0, none⟩) (sset vs).length cap)
    have hb3 := ((hbel3.setCell (p := ⟨w.heap.size, 0, none⟩) (Nat.le_refl _) (.bool false)).setCell (p := ⟨w.heap.size, 1, none⟩) (Nat.le_refl _) (.int .u8 tc)).setCell (p := ⟨w.heap.size, 2, none⟩) (Nat.le_refl _) (.slice (some ⟨g, 0, none⟩) (sset vs).length cap)
    generalize (((w3.setCell ⟨w.heap.size, 0, none⟩ (.bool false)).setCell ⟨w.heap.size, 1, none⟩ (.int .u8 tc)).setCell ⟨w.heap.size, 2, none⟩ (.slice (some ⟨g, 0, none⟩) (sset vs).length cap)) = W3 at hs ho hb3 ⊢
    have d0 : W3.cell? ⟨w.heap.size, 0, none⟩ = some (.bool false) := hs.cell 0
    have d1 : W3.cell? ⟨w.heap.size, 1, none⟩ = some (.int .u8 tc) := hs.cell 1
    have d2 : W3.cell? ⟨w.heap.size, 2, none⟩ = some (.slice (some ⟨g, 0, none⟩) (sset vs).length cap) := hs.cell 2
    exact bodyPost_ret (v := .agg #[.bool false, .int .u8 tc, .slice (some ⟨g, 0, none⟩) (sset vs).length cap]) (by simp [results, Try.results73, go_sem, d0, d1, d2]) rfl ⟨_, _, _, rfl, RdI.of_own ho, hb3, fun _ => ⟨_, rfl, hgw⟩⟩


end Go.Proofs.Ytimlbpjdgnapoaa
