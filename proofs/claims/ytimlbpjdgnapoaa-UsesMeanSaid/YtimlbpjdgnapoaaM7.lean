/- Texts of this claim, laid one behind the other: TermP, TermQ, UsesD, UsesE, UsesF, UsesG. -/
import Derived.Test.YtimlbpjdgnapoaaM2
import Derived.Test.YtimlbpjdgnapoaaM3
import Derived.Test.YtimlbpjdgnapoaaShelf
import Derived.Test.YtimlbpjdgnapoaaM1
import Derived.Sort.OwnSortedInts
import Derived.Lib.OwnBridge
import Derived.Test.YtimlbpjdgnapoaaM6
import Derived.Test.YtimlbpjdgnapoaaM4
import Derived.Test.YtimlbpjdgnapoaaM5
import Derived.Deep.RegionHeld3
/- What term.clean, Join, Sum, Scale return lies in memory of its own (or is nothing). -/
namespace Go.Proofs.Ytimlbpjdgnapoaa
set_option linter.unusedVariables false
set_option linter.unusedSimpArgs false
open Go.RowKit Go.Sort

/-- the call returns the term t, its variables in memory that the call laid -/
def RetF (t : TermD) (w : World) (e : Ending) (w' : World) : Prop :=
  ∃ A n c, e = .returned (.agg #[.bool t.never, .int .u8 t.c, .slice A n c]) ∧ RdI .i64 w' w'.heap.size A n c t.vars ∧ Below w.heap.size w w' ∧ (0 < n → ∃ a, A = some a ∧ w.heap.size ≤ a.block)
/-- the same, and the error x -/
def RetFE (t : TermD) (x : Int) (w : World) (e : Ending) (w' : World) : Prop :=
  ∃ A n c, e = .returned (.tuple #[.agg #[.bool t.never, .int .u8 t.c, .slice A n c], .int .i64 x]) ∧ RdI .i64 w' w'.heap.size A n c t.vars ∧ Below w.heap.size w w' ∧ (0 < n → ∃ a, A = some a ∧ w.heap.size ≤ a.block)

set_option maxHeartbeats 400000 in
theorem clean_fresh (tc : Int) (A : Option Addr) (n cp : Nat) (vs : List Int) (w : World) (B : Nat) (hr : RdI .i64 w B A n cp vs) (hB : B ≤ w.heap.size) (hbig : n * 8 ≤ 140737488355328) :
    Calls Try.prog 73 #[.int .u8 tc, .slice A n cp] w (RetF (cleanT tc vs) w) := by
  have hlen := hr.len
  have Hlen := Lib.hid hlen
  clear hlen
  by_cases h : tc = 3 ∨ vs = []
  · have hc : cleanT tc vs = ⟨false, tc, []⟩ := by unfold cleanT; rw [if_pos h]
    rw [hc]
    have hcase : (tc == 3) = true ∨ ((tc == 3) = false ∧ n = 0) := by
      by_cases h3 : tc = 3
      · exact .inl (by simp [h3])
      · refine .inr ⟨by simp [h3], ?_⟩
        rcases h with h | h
        · exact absurd h h3
        · rw [← Hlen.out, h]; rfl
    clear h hc
    have hbel : Below w.heap.size w (w.alloc (Obj.cells #[.bool false, .int .u8 tc, .slice none 0 0] 37)) := (Below.refl _ _).alloc (Nat.le_refl _) _
    rcases hcase with h | ⟨h, h0⟩
    · go_enter Try.func73, Try.ntmps73
      go_wp2_with fail
      exact bodyPost_ret (v := .agg #[.bool false, .int .u8 tc, .slice none 0 0]) (by simp [results, Try.results73, go_sem]) rfl ⟨none, 0, 0, rfl, RdI.nil, hbel, fun h => absurd h (by omega)⟩
    · subst h0
      go_enter Try.func73, Try.ntmps73
      go_wp2_with fail
      exact bodyPost_ret (v := .agg #[.bool false, .int .u8 tc, .slice none 0 0]) (by simp [results, Try.results73, go_sem]) rfl ⟨none, 0, 0, rfl, RdI.nil, hbel, fun h => absurd h (by omega)⟩
  · have hc : cleanT tc vs = ⟨false, tc, sset vs⟩ := by unfold cleanT; rw [if_neg h]
    rw [hc]
    have h1 : (tc == 3) = false := by simp; exact fun e => h (.inl e)
    have hn0 : n ≠ 0 := fun e => h (.inr (List.eq_nil_of_length_eq_zero (by rw [Hlen.out, e])))
    have h2 : ((n : Int) == 0) = false := by simp; omega
    clear h hc
    obtain ⟨b, off, rfl, hb, hcell⟩ := hr.at_ (by omega)
    have hnc := hr.2.1
    have hcm := hr.2.2
    have hclone := Try.slices_Clone_int b off n cp vs (w.alloc (Obj.cells #[.bool false, .int .u8 0, .slice none 0 0] 37)) (by rw [Hlen.out]; exact Nat.le_refl _) hbig (fun j hj => by
      rw [World.cell?_alloc_lt _ _ _ (by show b < w.heap.size; omega), hcell j hj]
      simp [List.getD, hj])
    have Hclone := Lib.hid hclone
    clear hclone hcell
    go_enter Try.func73, Try.ntmps73
    go_wp2_with fail
    refine Hclone.out.mono ?_
    rintro e w1 ⟨v', rfl, hown, hne, hb1⟩
    rw [show vs.take n = vs from List.take_of_length_le (by rw [Hlen.out]; exact Nat.le_refl _)] at hown
    obtain ⟨g, cap, rfl, hg1, hg2, hgc, hgm, hl, hH⟩ := Lib.holds_of_ownsRow hown hne
    simp only [World.size_alloc] at hg1 hown hb1
    have hself : Blk w1 w.heap.size 37 #[.bool false, .int .u8 0, .slice none 0 0] := by
      show w1.heap[w.heap.size]? = _
      rw [hb1.block _ (Nat.lt_succ_self _)]
      exact heap_alloc_new w _
    have hbel1 : Below w.heap.size w w1 := ((Below.refl _ _).alloc (Nat.le_refl _) _).trans (hb1.mono (Nat.le_succ _))
    clear hb1 hne Hclone hr
    have hsort := Try.slices_Sort_int g 0 cap vs w1 hH hg2 (by rw [hl]; omega)
    rw [hl] at hsort
    have Hsort := Lib.hid hsort
    clear hsort hH
    go_wp2_with fail
    refine Hsort.out.mono ?_
    rintro e w2 ⟨rfl, q, os, hw2⟩
    have hls : (vs.mergeSort fun x y => decide (x ≤ y)).length = vs.length := List.length_mergeSort _
    have hown2 : w2.ownsRow (w.heap.size + 1) 3 1 (.slice (some ⟨g, 0, none⟩) vs.length cap) vs.length ((vs.mergeSort fun x y => decide (x ≤ y)).map (Value.int .i64)) := by
      rcases hown.2 with ⟨e0, _⟩ | ⟨g', cap', cur, e0, hb', hgg, hn', hm', hs', ht'⟩
      · cases e0
      · injection e0 with e1 _ e3
        injection e1 with e1
        injection e1 with e1
        subst e1; subst e3
        rw [hw2]
        exact ownsRow_sortedI hls hg1 hgg (by rw [hl]; exact hgc) hgm hs'
    have hgb : w1.grownBy w2 (some g) := by rw [hw2]; exact grownBy_sortedI _
    have hbel2 := hbel1.grown hgb hbel1.size (fun k hk => by injection hk with hk; omega)
    have hself2 := hself.grown hgb (by simp; omega)
    have hg3 : g < w2.heap.size := Nat.lt_of_lt_of_le hg2 hgb.size
    clear hw2 hown hself hbel1 hgb hg2 Hsort
    rw [hl] at hown2 hls
    have hH2 : Holds (Value.int .i64) w2 g 0 (vs.mergeSort fun x y => decide (x ≤ y)).toArray := by
      obtain ⟨g2, cap2, e2, _, _, _, _, _, hH2⟩ := Lib.holds_of_ownsRow hown2 (by simp)
      injection e2 with e2 _ _
      injection e2 with e2
      injection e2 with e2
      subst e2
      exact hH2
    have hcomp := Try.slices_Compact_int g 0 cap (vs.mergeSort fun x y => decide (x ≤ y)) w2 hH2 (by rw [hls]; omega) (by rw [hls]; exact hgc)
    rw [hls] at hcomp
    have hk : (sset vs).length ≤ n := by have := compact_le (vs.mergeSort fun x y => decide (x ≤ y)); rw [hls] at this; exact this
    have hcomp' : Calls Try.prog 63 #[.slice (some ⟨g, 0, none⟩) n cap] w2 fun e w' => e = .returned (.slice (some ⟨g, 0, none⟩) (sset vs).length cap) ∧
        (w'.ownsRow (w.heap.size + 1) 3 1 (.slice (some ⟨g, 0, none⟩) (sset vs).length cap) (sset vs).length ((sset vs).map (Value.int .i64)) ∧ Below w.heap.size w w' ∧ Blk w' w.heap.size 37 #[.bool false, .int .u8 0, .slice none 0 0]) := by
      refine hcomp.mono ?_
      rintro e w3 ⟨rfl, q3, hw3⟩
      refine ⟨rfl, ?_, ?_, ?_⟩
      · have h3 := Lib.ownsRow_putRow (q := q3) (k := (sset vs).length) hown2 (ys := Lib.compact (vs.mergeSort fun x y => decide (x ≤ y)) ++ List.replicate (n - (Lib.compact (vs.mergeSort fun x y => decide (x ≤ y))).length) 0) (by
          rw [List.length_append, List.length_replicate]
          show (sset vs).length + (n - (sset vs).length) = n
          omega) hk
        have etake : (Lib.compact (vs.mergeSort fun x y => decide (x ≤ y)) ++ List.replicate (n - (Lib.compact (vs.mergeSort fun x y => decide (x ≤ y))).length) 0).take (sset vs).length = sset vs := List.take_left' rfl
        rw [etake] at h3
        rw [hw3]
        exact h3
      · rw [hw3]
        exact Lib.below_putRow hbel2 (by omega)
      · refine hself2.below (B := w.heap.size + 1) ?_ (Nat.lt_succ_self _)
        rw [hw3]
        exact Lib.below_putRow (Below.refl _ _) hg1
    have Hcomp := Lib.hid hcomp'
    clear hcomp hcomp' hH2 hown2 hself2 hbel2
    go_wp2_with fail
    refine Hcomp.out.mono ?_
    rintro e w3 ⟨rfl, hown3, hbel3, hself3⟩
    have c0 : w3.cell? ⟨w.heap.size, 0, none⟩ = some (.bool false) := hself3.cell 0
    have c1 : w3.cell? ⟨w.heap.size, 1, none⟩ = some (.int .u8 0) := hself3.cell 1
    have c2 : w3.cell? ⟨w.heap.size, 2, none⟩ = some (.slice none 0 0) := hself3.cell 2
    have f0 := hself3.frozen 0
    have f1 := hself3.frozen 1
    have f2 := hself3.frozen 2
    clear Hcomp
    go_wp2_with fail
    have hgw : w.heap.size ≤ g := by omega
    have hs := hself3.set3 (.bool false) (.int .u8 tc) (.slice (some ⟨g, 0, none⟩) (sset vs).length cap)
    have ho := ownsRow_setCell_below (ownsRow_setCell_below (ownsRow_setCell_below hown3 (a := ⟨w.heap.size, 0, none⟩) (Nat.lt_succ_self _) (.bool false)) (a := ⟨w.heap.size, 1, none⟩) (Nat.lt_succ_self _) (.int .u8 tc)) (a := ⟨w.heap.size, 2, none⟩) (Nat.lt_succ_self _) (.slice (some ⟨g, 0, none⟩) (sset vs).length cap)
    have hb3 := ((hbel3.setCell (p := ⟨w.heap.size, 0, none⟩) (Nat.le_refl _) (.bool false)).setCell (p := ⟨w.heap.size, 1, none⟩) (Nat.le_refl _) (.int .u8 tc)).setCell (p := ⟨w.heap.size, 2, none⟩) (Nat.le_refl _) (.slice (some ⟨g, 0, none⟩) (sset vs).length cap)
    generalize (((w3.setCell ⟨w.heap.size, 0, none⟩ (.bool false)).setCell ⟨w.heap.size, 1, none⟩ (.int .u8 tc)).setCell ⟨w.heap.size, 2, none⟩ (.slice (some ⟨g, 0, none⟩) (sset vs).length cap)) = W3 at hs ho hb3 ⊢
    have d0 : W3.cell? ⟨w.heap.size, 0, none⟩ = some (.bool false) := hs.cell 0
    have d1 : W3.cell? ⟨w.heap.size, 1, none⟩ = some (.int .u8 tc) := hs.cell 1
    have d2 : W3.cell? ⟨w.heap.size, 2, none⟩ = some (.slice (some ⟨g, 0, none⟩) (sset vs).length cap) := hs.cell 2
    exact bodyPost_ret (v := .agg #[.bool false, .int .u8 tc, .slice (some ⟨g, 0, none⟩) (sset vs).length cap]) (by simp [results, Try.results73, go_sem, d0, d1, d2]) rfl ⟨_, _, _, rfl, RdI.of_own ho, hb3, fun _ => ⟨_, rfl, hgw⟩⟩


end Go.Proofs.Ytimlbpjdgnapoaa

/- term.Join, Sum, Scale: what they return lies in memory of its own (lines of TermG, TermH, TermK turned to clean_fresh). -/
namespace Go.Proofs.Ytimlbpjdgnapoaa
set_option linter.unusedVariables false
set_option linter.unusedSimpArgs false
open Go.RowKit


set_option maxHeartbeats 2000000 in
theorem join_fresh (A : Option Addr) (n c : Nat) (ts : List TermD) (w : World) (hr : TermsV w w.heap.size A n c ts) (hyes : allMay ts = true) (hn : n ≤ 1099511627776) (hsum : (joinVs ts).length ≤ 1099511627776) :
    Calls Try.prog 44 #[.slice A n c] w (RetFE (joinT ts) 0 w) := by
  have hmx := @run_max2 Try.prog
  have Hyes := Lib.hid hyes
  clear hyes
  have hlen := hr.1
  have Hlen := Lib.hid hlen
  clear hlen
  have hbel : Below w.heap.size w (w.alloc (Obj.cells #[.bool false, .int .u8 0, .slice none 0 0] 37)) := (Below.refl _ _).alloc (Nat.le_refl _) _
  have hr1 := (hr.below hbel).more (B' := (w.alloc (Obj.cells #[.bool false, .int .u8 0, .slice none 0 0] 37)).heap.size) hbel.size
  go_enter Try.func44, Try.ntmps44
  go_wp2_with fail
  refine (mays_any A n c ts _ hr1).mono ?_; rintro e w1 ⟨rfl, hb1⟩
  rw [Hyes.out]
  have hr2 := (hr1.below hb1).more hb1.size
  simp only [World.size_alloc] at hb1
  have hself1 : Blk w1 w.heap.size 37 #[.bool false, .int .u8 0, .slice none 0 0] := by
    show w1.heap[w.heap.size]? = _
    rw [hb1.block _ (Nat.lt_succ_self _)]
    exact heap_alloc_new w _
  have hbel1 : Below w.heap.size w w1 := hbel.trans (hb1.mono (Nat.le_succ _))
  have hg1 : w.heap.size < w1.heap.size := hself1.lt
  clear hb1 hr hr1 hbel
  go_wp2_with fail
  refine (clone_any A n c ts _ hr2 (by omega)).mono ?_
  rintro e w2 ⟨v1, rfl, hown1, hf1, hb2⟩
  go_wp2_with fail
  refine (delete_any _ _ enters_join pred_join w1.heap.size w1.heap.size n v1 ts _ hown1 (Nat.le_refl _) hb2.size hf1).mono ?_
  rintro e w3 ⟨v2, m, rfl, hf2, hown2, hb3⟩
  obtain ⟨A2, c2, rfl⟩ : ∃ A2 c2, v2 = .slice A2 m c2 := by
    rcases hf2 with ⟨rfl, rfl⟩ | ⟨g, c, rfl⟩
    · exact ⟨none, 0, rfl⟩
    · exact ⟨some ⟨g, 0, none⟩, c, rfl⟩
  have hb23 : Below w1.heap.size w1 w3 := hb2.trans hb3
  have hself3 := hself1.below hb23 hg1
  have hbel3 : Below w.heap.size w w3 := hbel1.trans (hb23.mono hbel1.size)
  have hts := (hown2.terms (Nat.le_trans hb2.size hb3.size)).2
  have hlen2 : (someT ts).length = m := hown2.1
  have Hlen2 := Lib.hid hlen2
  have hmn : m ≤ n := by rw [← hlen2, ← Hlen.out]; exact List.length_filter_le _ _
  clear hlen2 hown1 hown2 hf1 hf2 hb2 hb3 hb23 hself1 hbel1 hg1 hr2
  have hsom : someT ts = (ts.filter fun t => !(fun t : TermD => t.never) t) := rfl
  rw [← hsom] at hts
  clear hsom
  have c0 : w3.cell? ⟨w.heap.size, 0, none⟩ = some (.bool false) := hself3.cell 0
  have c1 : w3.cell? ⟨w.heap.size, 1, none⟩ = some (.int .u8 0) := hself3.cell 1
  have c2' : w3.cell? ⟨w.heap.size, 2, none⟩ = some (.slice none 0 0) := hself3.cell 2
  have f0 := hself3.frozen 0
  have f1 := hself3.frozen 1
  have f2 := hself3.frozen 2
  by_cases hm0 : m = 0
  · subst hm0
    have hj : joinT ts = ⟨true, 0, []⟩ := by unfold joinT; rw [if_pos (List.eq_nil_of_length_eq_zero Hlen2.out)]
    have Hj := Lib.hid hj
    clear hj
    go_wp2_with fail
    have hs := hself3.set3 (.bool true) (.int .u8 0) (.slice none 0 0)
    have hb3 := ((hbel3.setCell (p := ⟨w.heap.size, 0, none⟩) (Nat.le_refl _) (.bool true)).setCell (p := ⟨w.heap.size, 1, none⟩) (Nat.le_refl _) (.int .u8 0)).setCell (p := ⟨w.heap.size, 2, none⟩) (Nat.le_refl _) (.slice none 0 0)
    generalize (((w3.setCell ⟨w.heap.size, 0, none⟩ (.bool true)).setCell ⟨w.heap.size, 1, none⟩ (.int .u8 0)).setCell ⟨w.heap.size, 2, none⟩ (.slice none 0 0)) = W3 at hs hb3 ⊢
    have d0 : W3.cell? ⟨w.heap.size, 0, none⟩ = some (.bool true) := hs.cell 0
    have d1 : W3.cell? ⟨w.heap.size, 1, none⟩ = some (.int .u8 0) := hs.cell 1
    have d2 : W3.cell? ⟨w.heap.size, 2, none⟩ = some (.slice none 0 0) := hs.cell 2
    exact bodyPost_ret (v := .tuple #[.agg #[.bool true, .int .u8 0, .slice none 0 0], .int .i64 0]) (by simp [results, Try.results44, go_sem, d0, d1, d2]) rfl (by rw [Hj.out]; exact ⟨none, 0, 0, rfl, RdI.nil, hb3, fun h => absurd h (by omega)⟩)
  · have hm1 : ((m : Int) == 0) = false := beq_eq_false_iff_ne.2 (by omega)
    have hj : joinT ts = cleanT (joinCs (joinC0 ts) (someT ts)) (joinVs (someT ts)) := by
      unfold joinT
      rw [if_neg (fun e => hm0 (by rw [← Hlen2.out, e]; rfl))]
    have Hj := Lib.hid hj
    clear hj
    have hc0 : (m < n ∧ joinC0 ts = 2) ∨ (¬ m < n ∧ joinC0 ts = 1) := by
      unfold joinC0
      rw [Hlen2.out, Hlen.out]
      by_cases h : m < n
      · exact .inl ⟨h, if_pos h⟩
      · exact .inr ⟨h, if_neg h⟩
    clear c0 c1 c2' f0 f1 f2
    have hmc := hts.2.1
    have hcm := hts.2.2.1
    unfold maxLen at hcm
    have Hts := Lib.hid hts
    clear hts
    have hsub : ∀ l : List TermD, List.Sublist l (someT ts) → (joinVs l).length ≤ 1099511627776 := by
      intro l hl
      have h1 : List.Sublist l ts := hl.trans List.filter_sublist
      exact Nat.le_trans (joinVs_sub h1) hsum
    have Hsub := Lib.hid hsub
    clear hsub hsum
    obtain ⟨i0, hi0, hz0, hz1, hz2⟩ := info_parts intInfo
    rcases hc0 with ⟨hlt, hj0⟩ | ⟨hlt, hj0⟩
    · have Hj' := Lib.hid (Hj.out.trans (by rw [hj0] : _ = cleanT (joinCs 2 (someT ts)) (joinVs (someT ts))))
      clear hj0 Hj
      go_wp2_with fail
      go_loopg [5, 6, 27] m (fun gg cc vv i wr => ∃ k : Nat, k ≤ m ∧ gg = m - k ∧ i = .int .i64 k ∧ cc = .int .u8 (joinCs 2 ((someT ts).take k)) ∧
        wr.ownsRow w3.heap.size 3 1 vv (joinVs ((someT ts).take k)).length ((joinVs ((someT ts).take k)).map (Value.int .i64)) ∧ Below w3.heap.size w3 wr)
      case atStart => exact ⟨0, Nat.zero_le _, rfl, rfl, rfl, World.ownsRow_nil _ _ _ _, Below.refl _ _⟩
      case round =>
        obtain ⟨k, hk, rfl, rfl, rfl, ho, hbel⟩ := hrel
        have Ho := Lib.hid ho
        clear ho
        by_cases hlk : k < m
        · obtain ⟨b, off, rfl, hb, hcell⟩ := Hts.out.2.2.2 (by omega)
          have hk' : k < (someT ts).length := by rw [Hlen2.out]; exact hlk
          obtain ⟨A', n', c', e0, e1, e2, hr'⟩ := (hcell k hk').keep hb (fun q hq => hbel.cell hq)
          have hstep : (someT ts).take (k + 1) = (someT ts).take k ++ [(someT ts)[k]] := List.take_succ_eq_append_getElem hk'
          have Hstep := Lib.hid hstep
          have Hr := Lib.hid hr'
          have hle : (joinVs ((someT ts).take k)).length + n' ≤ 1099511627776 := by
            have h1 := Hsub.out ((someT ts).take (k + 1)) (List.take_sublist _ _)
            rw [hstep, joinVs_snoc, List.length_append, hr'.len] at h1
            exact h1
          clear hstep hr' hcell
          go_wp2_with fail
          have ho' := Ho.out.alloc (Obj.cells #[.bool ((someT ts)[k]).never, .int .u8 ((someT ts)[k]).c, .slice A' n' c'] 37)
          have hne : u6.ownBlock ≠ some wr.heap.size := fun e => by have := (Ho.out.lt _ e).2; omega
          have hra := Hr.out.below ((Below.refl w3.heap.size wr).alloc hbel.size (Obj.cells #[.bool ((someT ts)[k]).never, .int .u8 ((someT ts)[k]).c, .slice A' n' c'] 37))
          have hbel' := hbel.alloc hbel.size (Obj.cells #[.bool ((someT ts)[k]).never, .int .u8 ((someT ts)[k]).c, .slice A' n' c'] 37)
          have q1 : (wr.alloc (Obj.cells #[.bool ((someT ts)[k]).never, .int .u8 ((someT ts)[k]).c, .slice A' n' c'] 37)).cell? ⟨wr.heap.size, 1, none⟩ = some (.int .u8 ((someT ts)[k]).c) := by rw [World.cell?_alloc_new]; rfl
          have q2 : (wr.alloc (Obj.cells #[.bool ((someT ts)[k]).never, .int .u8 ((someT ts)[k]).c, .slice A' n' c'] 37)).cell? ⟨wr.heap.size, 2, none⟩ = some (.slice A' n' c') := by rw [World.cell?_alloc_new]; rfl
          have htb : wr.heap.size < (wr.alloc (Obj.cells #[.bool ((someT ts)[k]).never, .int .u8 ((someT ts)[k]).c, .slice A' n' c'] 37)).heap.size := by simp
          generalize wr.alloc (Obj.cells #[.bool ((someT ts)[k]).never, .int .u8 ((someT ts)[k]).c, .slice A' n' c'] 37) = W at ho' hra hbel' q1 q2 htb ⊢
          generalize wr.heap.size = tb at hne q1 q2 htb ⊢
          go_region_held3 (fun w' => w'.cell? ⟨tb, 1, none⟩ = some (.int .u8 ((someT ts)[k]).c) ∧ w'.cell? ⟨tb, 2, none⟩ = some (.slice A' n' c'))
            (first | go_keep | (refine ⟨(hg4.cell_far _ (by simpa using htb) (Ne.symm hne)).trans q1, (hg4.cell_far _ (by simpa using htb) (Ne.symm hne)).trans q2⟩))
            ((refine step_append_rd (o := ⟨some 38, _, _, _, _, _⟩) _ (by rfl) (.tmp 35) (.tmp 37) 35 (by rfl) w3.heap.size 3 i0 _ 1 8 Try.underlying35 hi0 hz0 hz1 hz2 rfl (by omega) u6 (joinVs ((someT ts).take k)).length ((joinVs ((someT ts).take k)).map (Value.int .i64)) (by rfl) ho' w3.heap.size A' n' c' ((((someT ts)[k]).vars).map (Value.int .i64)) (by rfl) hra.1 (by intro u hu; obtain ⟨x, _, rfl⟩ := List.mem_map.1 hu; rfl) (by unfold maxLen; omega) (by omega) hbel'.size ?_; intro v4 w4 ho4 hg4 hat4))
          all_goals
            have ho5 : w4.ownsRow w3.heap.size 3 1 v4 (joinVs ((someT ts).take (k + 1))).length ((joinVs ((someT ts).take (k + 1))).map (Value.int .i64)) := by
              rw [Hstep.out, joinVs_snoc, List.length_append, List.map_append, Hr.out.len]
              exact ho4
            have hcs : joinCs 2 ((someT ts).take (k + 1)) = max (joinCs 2 ((someT ts).take k)) ((someT ts)[k]).c := by rw [Hstep.out, joinCs_snoc]
            have hbel5 : Below w3.heap.size w3 w4 := (hbel'.drew).grown hg4 hbel'.size (fun j hj => (ho'.lt _ hj).1)
            have Ho5 := Lib.hid ho5
            have Hcs := Lib.hid hcs
            clear hcs ho5 ho4 hat4 hg4 ho' hra hbel' q1 q2 e0 e1 e2
            go_wp2_with fail
            go_roundg (m - (k + 1))
            case rel => exact ⟨k + 1, by omega, rfl, by rfl, by rw [Hcs.out], Ho5.out, hbel5⟩
            case measure => omega
        · have hkm : k = m := by omega
          subst hkm
          have hall : (someT ts).take k = someT ts := List.take_of_length_le (by rw [Hlen2.out]; exact Nat.le_refl _)
          have ho1 := Ho.out
          rw [hall] at ho1
          obtain ⟨A6, c6, rfl⟩ : ∃ A6 c6, u6 = .slice A6 (joinVs (someT ts)).length c6 := by
            rcases ho1.2 with ⟨e0, hn0⟩ | ⟨g, cap, cur, e0, _⟩
            · exact ⟨none, 0, by rw [e0, hn0]⟩
            · exact ⟨some ⟨g, 0, none⟩, cap, e0⟩
          have hrv := RdI.of_own ho1
          have hs4 := hself3.below hbel hself3.lt
          have hb4 := hbel3.trans (hbel.mono hbel3.size)
          have hl6 : (joinVs (someT ts)).length * 8 ≤ 140737488355328 := by
            have := Hsub.out (someT ts) (List.Sublist.refl _)
            omega
          have Hl6 := Lib.hid hl6
          have Hall := Lib.hid hall
          have Hrv := Lib.hid hrv
          clear hl6 hall hrv ho1 hbel hbel3 hself3 Ho
          go_wp2_with fail
          rw [Hall.out]
          refine (clean_fresh (joinCs 2 (someT ts)) A6 _ c6 _ wr _ Hrv.out (Nat.le_refl _) Hl6.out).mono ?_
          rintro e w5 ⟨A7, n7, c7, rfl, hr7, hb7, hf7⟩
          have HF7 : Hid (0 < n7 → ∃ a, A7 = some a ∧ w.heap.size ≤ a.block) := Lib.hid fun h => by obtain ⟨a, e, ha⟩ := hf7 h; exact ⟨a, e, Nat.le_trans hb4.size ha⟩
          clear hf7
          have hs5 := hs4.below hb7 hs4.lt
          have hb5 := hb4.trans (hb7.mono hb4.size)
          generalize cleanT (joinCs 2 (someT ts)) (joinVs (someT ts)) = T at Hj' hr7
          have g0 : w5.cell? ⟨w.heap.size, 0, none⟩ = some (.bool false) := hs5.cell 0
          have g1 : w5.cell? ⟨w.heap.size, 1, none⟩ = some (.int .u8 0) := hs5.cell 1
          have g2 : w5.cell? ⟨w.heap.size, 2, none⟩ = some (.slice none 0 0) := hs5.cell 2
          have p0 := hs5.frozen 0
          have p1 := hs5.frozen 1
          have p2 := hs5.frozen 2
          have Hr7 := Lib.hid hr7
          clear hr7 hs4 hb4 hb7 Hrv
          go_wp2_with fail
          have hs := hs5.set3 (.bool T.never) (.int .u8 T.c) (.slice A7 n7 c7)
          have hb3 := ((hb5.setCell (p := ⟨w.heap.size, 0, none⟩) (Nat.le_refl _) (.bool T.never)).setCell (p := ⟨w.heap.size, 1, none⟩) (Nat.le_refl _) (.int .u8 T.c)).setCell (p := ⟨w.heap.size, 2, none⟩) (Nat.le_refl _) (.slice A7 n7 c7)
          have hr8 := Hr7.out.put3 hs5 (.bool T.never) (.int .u8 T.c) (.slice A7 n7 c7)
          have hr9 := hr8.more (B' := (((w5.setCell ⟨w.heap.size, 0, none⟩ (.bool T.never)).setCell ⟨w.heap.size, 1, none⟩ (.int .u8 T.c)).setCell ⟨w.heap.size, 2, none⟩ (.slice A7 n7 c7)).heap.size) (by simp)
          generalize (((w5.setCell ⟨w.heap.size, 0, none⟩ (.bool T.never)).setCell ⟨w.heap.size, 1, none⟩ (.int .u8 T.c)).setCell ⟨w.heap.size, 2, none⟩ (.slice A7 n7 c7)) = W3 at hs hb3 hr8 hr9 ⊢
          have d0 : W3.cell? ⟨w.heap.size, 0, none⟩ = some (.bool T.never) := hs.cell 0
          have d1 : W3.cell? ⟨w.heap.size, 1, none⟩ = some (.int .u8 T.c) := hs.cell 1
          have d2 : W3.cell? ⟨w.heap.size, 2, none⟩ = some (.slice A7 n7 c7) := hs.cell 2
          exact bodyPost_ret (v := .tuple #[.agg #[.bool T.never, .int .u8 T.c, .slice A7 n7 c7], .int .i64 0]) (by simp [results, Try.results44, go_sem, d0, d1, d2]) rfl (by rw [Hj'.out]; exact ⟨A7, n7, c7, rfl, hr9, hb3, fun h => by obtain ⟨a, e, ha⟩ := HF7.out h; exact ⟨a, e, by omega⟩⟩)
    · have Hj' := Lib.hid (Hj.out.trans (by rw [hj0] : _ = cleanT (joinCs 1 (someT ts)) (joinVs (someT ts))))
      clear hj0 Hj
      go_wp2_with fail
      go_loopg [5, 6, 27] m (fun gg cc vv i wr => ∃ k : Nat, k ≤ m ∧ gg = m - k ∧ i = .int .i64 k ∧ cc = .int .u8 (joinCs 1 ((someT ts).take k)) ∧
        wr.ownsRow w3.heap.size 3 1 vv (joinVs ((someT ts).take k)).length ((joinVs ((someT ts).take k)).map (Value.int .i64)) ∧ Below w3.heap.size w3 wr)
      case atStart => exact ⟨0, Nat.zero_le _, rfl, rfl, rfl, World.ownsRow_nil _ _ _ _, Below.refl _ _⟩
      case round =>
        obtain ⟨k, hk, rfl, rfl, rfl, ho, hbel⟩ := hrel
        have Ho := Lib.hid ho
        clear ho
        by_cases hlk : k < m
        · obtain ⟨b, off, rfl, hb, hcell⟩ := Hts.out.2.2.2 (by omega)
          have hk' : k < (someT ts).length := by rw [Hlen2.out]; exact hlk
          obtain ⟨A', n', c', e0, e1, e2, hr'⟩ := (hcell k hk').keep hb (fun q hq => hbel.cell hq)
          have hstep : (someT ts).take (k + 1) = (someT ts).take k ++ [(someT ts)[k]] := List.take_succ_eq_append_getElem hk'
          have Hstep := Lib.hid hstep
          have Hr := Lib.hid hr'
          have hle : (joinVs ((someT ts).take k)).length + n' ≤ 1099511627776 := by
            have h1 := Hsub.out ((someT ts).take (k + 1)) (List.take_sublist _ _)
            rw [hstep, joinVs_snoc, List.length_append, hr'.len] at h1
            exact h1
          clear hstep hr' hcell
          go_wp2_with fail
          have ho' := Ho.out.alloc (Obj.cells #[.bool ((someT ts)[k]).never, .int .u8 ((someT ts)[k]).c, .slice A' n' c'] 37)
          have hne : u6.ownBlock ≠ some wr.heap.size := fun e => by have := (Ho.out.lt _ e).2; omega
          have hra := Hr.out.below ((Below.refl w3.heap.size wr).alloc hbel.size (Obj.cells #[.bool ((someT ts)[k]).never, .int .u8 ((someT ts)[k]).c, .slice A' n' c'] 37))
          have hbel' := hbel.alloc hbel.size (Obj.cells #[.bool ((someT ts)[k]).never, .int .u8 ((someT ts)[k]).c, .slice A' n' c'] 37)
          have q1 : (wr.alloc (Obj.cells #[.bool ((someT ts)[k]).never, .int .u8 ((someT ts)[k]).c, .slice A' n' c'] 37)).cell? ⟨wr.heap.size, 1, none⟩ = some (.int .u8 ((someT ts)[k]).c) := by rw [World.cell?_alloc_new]; rfl
          have q2 : (wr.alloc (Obj.cells #[.bool ((someT ts)[k]).never, .int .u8 ((someT ts)[k]).c, .slice A' n' c'] 37)).cell? ⟨wr.heap.size, 2, none⟩ = some (.slice A' n' c') := by rw [World.cell?_alloc_new]; rfl
          have htb : wr.heap.size < (wr.alloc (Obj.cells #[.bool ((someT ts)[k]).never, .int .u8 ((someT ts)[k]).c, .slice A' n' c'] 37)).heap.size := by simp
          generalize wr.alloc (Obj.cells #[.bool ((someT ts)[k]).never, .int .u8 ((someT ts)[k]).c, .slice A' n' c'] 37) = W at ho' hra hbel' q1 q2 htb ⊢
          generalize wr.heap.size = tb at hne q1 q2 htb ⊢
          go_region_held3 (fun w' => w'.cell? ⟨tb, 1, none⟩ = some (.int .u8 ((someT ts)[k]).c) ∧ w'.cell? ⟨tb, 2, none⟩ = some (.slice A' n' c'))
            (first | go_keep | (refine ⟨(hg4.cell_far _ (by simpa using htb) (Ne.symm hne)).trans q1, (hg4.cell_far _ (by simpa using htb) (Ne.symm hne)).trans q2⟩))
            ((refine step_append_rd (o := ⟨some 38, _, _, _, _, _⟩) _ (by rfl) (.tmp 35) (.tmp 37) 35 (by rfl) w3.heap.size 3 i0 _ 1 8 Try.underlying35 hi0 hz0 hz1 hz2 rfl (by omega) u6 (joinVs ((someT ts).take k)).length ((joinVs ((someT ts).take k)).map (Value.int .i64)) (by rfl) ho' w3.heap.size A' n' c' ((((someT ts)[k]).vars).map (Value.int .i64)) (by rfl) hra.1 (by intro u hu; obtain ⟨x, _, rfl⟩ := List.mem_map.1 hu; rfl) (by unfold maxLen; omega) (by omega) hbel'.size ?_; intro v4 w4 ho4 hg4 hat4))
          all_goals
            have ho5 : w4.ownsRow w3.heap.size 3 1 v4 (joinVs ((someT ts).take (k + 1))).length ((joinVs ((someT ts).take (k + 1))).map (Value.int .i64)) := by
              rw [Hstep.out, joinVs_snoc, List.length_append, List.map_append, Hr.out.len]
              exact ho4
            have hcs : joinCs 1 ((someT ts).take (k + 1)) = max (joinCs 1 ((someT ts).take k)) ((someT ts)[k]).c := by rw [Hstep.out, joinCs_snoc]
            have hbel5 : Below w3.heap.size w3 w4 := (hbel'.drew).grown hg4 hbel'.size (fun j hj => (ho'.lt _ hj).1)
            have Ho5 := Lib.hid ho5
            have Hcs := Lib.hid hcs
            clear hcs ho5 ho4 hat4 hg4 ho' hra hbel' q1 q2 e0 e1 e2
            go_wp2_with fail
            go_roundg (m - (k + 1))
            case rel => exact ⟨k + 1, by omega, rfl, by rfl, by rw [Hcs.out], Ho5.out, hbel5⟩
            case measure => omega
        · have hkm : k = m := by omega
          subst hkm
          have hall : (someT ts).take k = someT ts := List.take_of_length_le (by rw [Hlen2.out]; exact Nat.le_refl _)
          have ho1 := Ho.out
          rw [hall] at ho1
          obtain ⟨A6, c6, rfl⟩ : ∃ A6 c6, u6 = .slice A6 (joinVs (someT ts)).length c6 := by
            rcases ho1.2 with ⟨e0, hn0⟩ | ⟨g, cap, cur, e0, _⟩
            · exact ⟨none, 0, by rw [e0, hn0]⟩
            · exact ⟨some ⟨g, 0, none⟩, cap, e0⟩
          have hrv := RdI.of_own ho1
          have hs4 := hself3.below hbel hself3.lt
          have hb4 := hbel3.trans (hbel.mono hbel3.size)
          have hl6 : (joinVs (someT ts)).length * 8 ≤ 140737488355328 := by
            have := Hsub.out (someT ts) (List.Sublist.refl _)
            omega
          have Hl6 := Lib.hid hl6
          have Hall := Lib.hid hall
          have Hrv := Lib.hid hrv
          clear hl6 hall hrv ho1 hbel hbel3 hself3 Ho
          go_wp2_with fail
          rw [Hall.out]
          refine (clean_fresh (joinCs 1 (someT ts)) A6 _ c6 _ wr _ Hrv.out (Nat.le_refl _) Hl6.out).mono ?_
          rintro e w5 ⟨A7, n7, c7, rfl, hr7, hb7, hf7⟩
          have HF7 : Hid (0 < n7 → ∃ a, A7 = some a ∧ w.heap.size ≤ a.block) := Lib.hid fun h => by obtain ⟨a, e, ha⟩ := hf7 h; exact ⟨a, e, Nat.le_trans hb4.size ha⟩
          clear hf7
          have hs5 := hs4.below hb7 hs4.lt
          have hb5 := hb4.trans (hb7.mono hb4.size)
          generalize cleanT (joinCs 1 (someT ts)) (joinVs (someT ts)) = T at Hj' hr7
          have g0 : w5.cell? ⟨w.heap.size, 0, none⟩ = some (.bool false) := hs5.cell 0
          have g1 : w5.cell? ⟨w.heap.size, 1, none⟩ = some (.int .u8 0) := hs5.cell 1
          have g2 : w5.cell? ⟨w.heap.size, 2, none⟩ = some (.slice none 0 0) := hs5.cell 2
          have p0 := hs5.frozen 0
          have p1 := hs5.frozen 1
          have p2 := hs5.frozen 2
          have Hr7 := Lib.hid hr7
          clear hr7 hs4 hb4 hb7 Hrv
          go_wp2_with fail
          have hs := hs5.set3 (.bool T.never) (.int .u8 T.c) (.slice A7 n7 c7)
          have hb3 := ((hb5.setCell (p := ⟨w.heap.size, 0, none⟩) (Nat.le_refl _) (.bool T.never)).setCell (p := ⟨w.heap.size, 1, none⟩) (Nat.le_refl _) (.int .u8 T.c)).setCell (p := ⟨w.heap.size, 2, none⟩) (Nat.le_refl _) (.slice A7 n7 c7)
          have hr8 := Hr7.out.put3 hs5 (.bool T.never) (.int .u8 T.c) (.slice A7 n7 c7)
          have hr9 := hr8.more (B' := (((w5.setCell ⟨w.heap.size, 0, none⟩ (.bool T.never)).setCell ⟨w.heap.size, 1, none⟩ (.int .u8 T.c)).setCell ⟨w.heap.size, 2, none⟩ (.slice A7 n7 c7)).heap.size) (by simp)
          generalize (((w5.setCell ⟨w.heap.size, 0, none⟩ (.bool T.never)).setCell ⟨w.heap.size, 1, none⟩ (.int .u8 T.c)).setCell ⟨w.heap.size, 2, none⟩ (.slice A7 n7 c7)) = W3 at hs hb3 hr8 hr9 ⊢
          have d0 : W3.cell? ⟨w.heap.size, 0, none⟩ = some (.bool T.never) := hs.cell 0
          have d1 : W3.cell? ⟨w.heap.size, 1, none⟩ = some (.int .u8 T.c) := hs.cell 1
          have d2 : W3.cell? ⟨w.heap.size, 2, none⟩ = some (.slice A7 n7 c7) := hs.cell 2
          exact bodyPost_ret (v := .tuple #[.agg #[.bool T.never, .int .u8 T.c, .slice A7 n7 c7], .int .i64 0]) (by simp [results, Try.results44, go_sem, d0, d1, d2]) rfl (by rw [Hj'.out]; exact ⟨A7, n7, c7, rfl, hr9, hb3, fun h => by obtain ⟨a, e, ha⟩ := HF7.out h; exact ⟨a, e, by omega⟩⟩)



set_option maxHeartbeats 2000000 in
theorem sum_fresh (A : Option Addr) (n c : Nat) (ts : List TermD) (w : World) (hr : TermsV w w.heap.size A n c ts) (hyes : allMay ts = true) (hn : n ≤ 1099511627776) (hsum : ∀ t ∈ ts, t.vars.length ≤ 1099511627776) :
    Calls Try.prog 45 #[.slice A n c] w (RetFE (sumT ts) 0 w) := by
  have Hyes := Lib.hid hyes
  clear hyes
  have hlen := hr.1
  have Hlen := Lib.hid hlen
  clear hlen
  have hbel : Below w.heap.size w (w.alloc (Obj.cells #[.bool false, .int .u8 0, .slice none 0 0] 37)) := (Below.refl _ _).alloc (Nat.le_refl _) _
  have hr1 := (hr.below hbel).more (B' := (w.alloc (Obj.cells #[.bool false, .int .u8 0, .slice none 0 0] 37)).heap.size) hbel.size
  go_enter Try.func45, Try.ntmps45
  go_wp2_with fail
  refine (mays_any A n c ts _ hr1).mono ?_; rintro e w1 ⟨rfl, hb1⟩
  rw [Hyes.out]
  have hr2 := (hr1.below hb1).more hb1.size
  simp only [World.size_alloc] at hb1
  have hself1 : Blk w1 w.heap.size 37 #[.bool false, .int .u8 0, .slice none 0 0] := by
    show w1.heap[w.heap.size]? = _
    rw [hb1.block _ (Nat.lt_succ_self _)]
    exact heap_alloc_new w _
  have hbel1 : Below w.heap.size w w1 := hbel.trans (hb1.mono (Nat.le_succ _))
  have hg1 : w.heap.size < w1.heap.size := hself1.lt
  clear hb1 hr hr1 hbel
  go_wp2_with fail
  refine (clone_any A n c ts _ hr2 (by omega)).mono ?_
  rintro e w2 ⟨v1, rfl, hown1, hf1, hb2⟩
  go_wp2_with fail
  refine (delete_any _ _ enters_sum pred_sum w1.heap.size w1.heap.size n v1 ts _ hown1 (Nat.le_refl _) hb2.size hf1).mono ?_
  rintro e w3 ⟨v2, m, rfl, hf2, hown2, hb3⟩
  obtain ⟨A2, c2, rfl⟩ : ∃ A2 c2, v2 = .slice A2 m c2 := by
    rcases hf2 with ⟨rfl, rfl⟩ | ⟨g, c, rfl⟩
    · exact ⟨none, 0, rfl⟩
    · exact ⟨some ⟨g, 0, none⟩, c, rfl⟩
  have hb23 : Below w1.heap.size w1 w3 := hb2.trans hb3
  have hself3 := hself1.below hb23 hg1
  have hbel3 : Below w.heap.size w w3 := hbel1.trans (hb23.mono hbel1.size)
  have hts := (hown2.terms (Nat.le_trans hb2.size hb3.size)).2
  have hlen2 : (someT ts).length = m := hown2.1
  have Hlen2 := Lib.hid hlen2
  have hge : ∀ b off, A2 = some ⟨b, off, none⟩ → w1.heap.size ≤ b := by
    intro b off e
    obtain ⟨_, cs, ho, _⟩ := hown2
    exact (ho.lt b (by rw [e]; rfl)).1
  have Hge := Lib.hid hge
  clear hge
  have hmn : m ≤ n := by rw [← hlen2, ← Hlen.out]; exact List.length_filter_le _ _
  have hg1' := hg1
  clear hlen2 hown1 hown2 hf1 hf2 hb2 hb3 hb23 hself1 hbel1 hg1 hr2
  have hsom : someT ts = (ts.filter fun t => !(fun t : TermD => t.never) t) := rfl
  rw [← hsom] at hts
  clear hsom
  have c0 : w3.cell? ⟨w.heap.size, 0, none⟩ = some (.bool false) := hself3.cell 0
  have c1 : w3.cell? ⟨w.heap.size, 1, none⟩ = some (.int .u8 0) := hself3.cell 1
  have c2' : w3.cell? ⟨w.heap.size, 2, none⟩ = some (.slice none 0 0) := hself3.cell 2
  have f0 := hself3.frozen 0
  have f1 := hself3.frozen 1
  have f2 := hself3.frozen 2
  by_cases hm0 : m = 0
  · subst hm0
    have hj : sumT ts = ⟨true, 0, []⟩ := by unfold sumT; rw [List.eq_nil_of_length_eq_zero Hlen2.out]
    have Hj := Lib.hid hj
    clear hj
    go_wp2_with fail
    have hs := hself3.set3 (.bool true) (.int .u8 0) (.slice none 0 0)
    have hb3 := ((hbel3.setCell (p := ⟨w.heap.size, 0, none⟩) (Nat.le_refl _) (.bool true)).setCell (p := ⟨w.heap.size, 1, none⟩) (Nat.le_refl _) (.int .u8 0)).setCell (p := ⟨w.heap.size, 2, none⟩) (Nat.le_refl _) (.slice none 0 0)
    generalize (((w3.setCell ⟨w.heap.size, 0, none⟩ (.bool true)).setCell ⟨w.heap.size, 1, none⟩ (.int .u8 0)).setCell ⟨w.heap.size, 2, none⟩ (.slice none 0 0)) = W3 at hs hb3 ⊢
    have d0 : W3.cell? ⟨w.heap.size, 0, none⟩ = some (.bool true) := hs.cell 0
    have d1 : W3.cell? ⟨w.heap.size, 1, none⟩ = some (.int .u8 0) := hs.cell 1
    have d2 : W3.cell? ⟨w.heap.size, 2, none⟩ = some (.slice none 0 0) := hs.cell 2
    exact bodyPost_ret (v := .tuple #[.agg #[.bool true, .int .u8 0, .slice none 0 0], .int .i64 0]) (by simp [results, Try.results45, go_sem, d0, d1, d2]) rfl (by rw [Hj.out]; exact ⟨none, 0, 0, rfl, RdI.nil, hb3, fun h => absurd h (by omega)⟩)
  · by_cases hm1 : m = 1
    · subst hm1
      obtain ⟨t, ht⟩ : ∃ t, someT ts = [t] := List.length_eq_one_iff.1 Hlen2.out
      have hj : sumT ts = cleanT t.c t.vars := by unfold sumT; rw [ht]
      have Hj := Lib.hid hj
      clear hj
      have htm : t ∈ ts := by
        have h1 : t ∈ someT ts := by rw [ht]; simp
        exact (List.mem_filter.1 (show t ∈ ts.filter (fun t => !t.never) from h1)).1
      have hln := hsum t htm
      rw [ht] at hts
      obtain ⟨b, off, rfl, hb, hcell⟩ := hts.2.2.2 (by omega)
      have hbne : b ≠ w.heap.size := by have := Hge.out b off rfl; omega
      obtain ⟨A', n', c', e0, e1, e2, hr'⟩ := hcell 0 (by simp)
      rw [Nat.zero_mul, Nat.add_zero] at e0 e1 e2
      simp only [List.getElem_cons_zero] at e0 e1 e2 hr'
      have hl8 : n' * 8 ≤ 140737488355328 := by rw [← hr'.len]; omega
      have Hl8 := Lib.hid hl8
      have Hr := Lib.hid hr'
      clear hr' hcell hts htm hsum hl8 ht hln c0 c1 c2' f0 f1 f2
      go_wp2_with fail
      go_region_held3 (fun w' => w'.cell? ⟨b, off + 1, none⟩ = some (.int .u8 t.c) ∧ w'.cell? ⟨b, off + 2, none⟩ = some (.slice A' n' c'))
        (first | go_keep | exact ⟨e1, e2⟩ | exact ⟨(hb7.cell (p := ⟨b, off + 1, none⟩) hb).trans e1, (hb7.cell (p := ⟨b, off + 2, none⟩) hb).trans e2⟩ | exact ⟨(set3_other _ _ hbne _ _ _).trans ((hb7.cell (p := ⟨b, off + 1, none⟩) hb).trans e1), (set3_other _ _ hbne _ _ _).trans ((hb7.cell (p := ⟨b, off + 2, none⟩) hb).trans e2)⟩)
        ((go_at_call 73; refine (clean_fresh t.c A' n' c' t.vars w3.drew w3.heap.size (Hr.out.keep (w' := w3.drew) fun _ _ => rfl) (Nat.le_refl _) Hl8.out).mono ?_; rintro e w5 ⟨A7, n7, c7, rfl, hr7, hb7, hf7⟩; have HF7 : Hid (0 < n7 → ∃ a, A7 = some a ∧ w.heap.size ≤ a.block) := Lib.hid (fun h => by obtain ⟨a, e, ha⟩ := hf7 h; exact ⟨a, e, Nat.le_trans hbel3.size ha⟩);
          replace hb7 : Below w3.heap.size w3 w5 := ((Below.refl _ _).drew).trans hb7; have hs5 := hself3.below hb7 hself3.lt; have hb5 := hbel3.trans (hb7.mono hbel3.size); generalize cleanT t.c t.vars = T at Hj hr7;
          have g0 : w5.cell? ⟨w.heap.size, 0, none⟩ = some (.bool false) := hs5.cell 0; have g1 : w5.cell? ⟨w.heap.size, 1, none⟩ = some (.int .u8 0) := hs5.cell 1; have g2 : w5.cell? ⟨w.heap.size, 2, none⟩ = some (.slice none 0 0) := hs5.cell 2;
          have p0 := hs5.frozen 0; have p1 := hs5.frozen 1; have p2 := hs5.frozen 2))
      have Hr7 := Lib.hid hr7
      clear hr7 hself3 hbel3 hb7 Hr
      try go_wp2_with fail
      have hs := hs5.set3 (.bool T.never) (.int .u8 T.c) (.slice A7 n7 c7)
      have hb3 := ((hb5.setCell (p := ⟨w.heap.size, 0, none⟩) (Nat.le_refl _) (.bool T.never)).setCell (p := ⟨w.heap.size, 1, none⟩) (Nat.le_refl _) (.int .u8 T.c)).setCell (p := ⟨w.heap.size, 2, none⟩) (Nat.le_refl _) (.slice A7 n7 c7)
      have hr8 := Hr7.out.put3 hs5 (.bool T.never) (.int .u8 T.c) (.slice A7 n7 c7)
      have hr9 := hr8.more (B' := (((w5.setCell ⟨w.heap.size, 0, none⟩ (.bool T.never)).setCell ⟨w.heap.size, 1, none⟩ (.int .u8 T.c)).setCell ⟨w.heap.size, 2, none⟩ (.slice A7 n7 c7)).heap.size) (by simp)
      generalize (((w5.setCell ⟨w.heap.size, 0, none⟩ (.bool T.never)).setCell ⟨w.heap.size, 1, none⟩ (.int .u8 T.c)).setCell ⟨w.heap.size, 2, none⟩ (.slice A7 n7 c7)) = W3 at hs hb3 hr8 hr9 ⊢
      have d0 : W3.cell? ⟨w.heap.size, 0, none⟩ = some (.bool T.never) := hs.cell 0
      have d1 : W3.cell? ⟨w.heap.size, 1, none⟩ = some (.int .u8 T.c) := hs.cell 1
      have d2 : W3.cell? ⟨w.heap.size, 2, none⟩ = some (.slice A7 n7 c7) := hs.cell 2
      exact bodyPost_ret (v := .tuple #[.agg #[.bool T.never, .int .u8 T.c, .slice A7 n7 c7], .int .i64 0]) (by simp [results, Try.results45, go_sem, d0, d1, d2]) rfl (by rw [Hj.out]; exact ⟨A7, n7, c7, rfl, hr9, hb3, fun h => by obtain ⟨a, e, ha⟩ := HF7.out h; exact ⟨a, e, by omega⟩⟩)
    · have hj : sumT ts = ⟨false, 3, []⟩ := by
        unfold sumT
        have := Hlen2.out
        split
        · rename_i h; rw [h] at this; simp at this; omega
        · rename_i h; rw [h] at this; simp at this; omega
        · rfl
      have Hj := Lib.hid hj
      have hz0 : ((m : Int) == 0) = false := beq_eq_false_iff_ne.2 (by omega)
      have hz1 : ((m : Int) == 1) = false := beq_eq_false_iff_ne.2 (by omega)
      clear hj hts hsum
      go_wp2_with fail
      have hs := hself3.set3 (.bool false) (.int .u8 3) (.slice none 0 0)
      have hb3 := ((hbel3.setCell (p := ⟨w.heap.size, 0, none⟩) (Nat.le_refl _) (.bool false)).setCell (p := ⟨w.heap.size, 1, none⟩) (Nat.le_refl _) (.int .u8 3)).setCell (p := ⟨w.heap.size, 2, none⟩) (Nat.le_refl _) (.slice none 0 0)
      generalize (((w3.setCell ⟨w.heap.size, 0, none⟩ (.bool false)).setCell ⟨w.heap.size, 1, none⟩ (.int .u8 3)).setCell ⟨w.heap.size, 2, none⟩ (.slice none 0 0)) = W3 at hs hb3 ⊢
      have d0 : W3.cell? ⟨w.heap.size, 0, none⟩ = some (.bool false) := hs.cell 0
      have d1 : W3.cell? ⟨w.heap.size, 1, none⟩ = some (.int .u8 3) := hs.cell 1
      have d2 : W3.cell? ⟨w.heap.size, 2, none⟩ = some (.slice none 0 0) := hs.cell 2
      exact bodyPost_ret (v := .tuple #[.agg #[.bool false, .int .u8 3, .slice none 0 0], .int .i64 0]) (by simp [results, Try.results45, go_sem, d0, d1, d2]) rfl (by rw [Hj.out]; exact ⟨none, 0, 0, rfl, RdI.nil, hb3, fun h => absurd h (by omega)⟩)



set_option maxRecDepth 100000 in
set_option maxHeartbeats 1000000 in
theorem scale_fresh (c v : Int) (tv : Value) (t : TermD) (w : World) (B : Nat) (hv : TermV w B tv t) (hB : B ≤ w.heap.size) (h1 : isB c v = true) (h2 : mayB t = true) (hbig : t.vars.length ≤ 1099511627776) :
    Calls Try.prog 59 #[.agg #[.int .i64 v, .int .u8 c], tv] w (RetFE (scaleT c v t) 0 w) := by
  have hmx := @run_max2 Try.prog
  obtain ⟨A, n, cp, rfl, hr⟩ := hv
  obtain ⟨hb0, hs0, hm0, ht0, hz0⟩ := W0_facts c v t A n cp w
  have Hs0 := Lib.hid hs0
  have hq := is_any c v (W0 c v t A n cp w)
  have Hq := Lib.hid hq
  have hlv := hr.len
  have Hlv := Lib.hid hlv
  have Hbig := Lib.hid hbig
  have He := Lib.hid (isE_yes h1)
  have HN : Hid (t.never = true → n = 0) := Lib.hid fun h => by
    have := h2
    unfold mayB at this
    simp only [h, if_true, Bool.and_eq_true, beq_iff_eq, List.isEmpty_iff] at this
    rw [← hlv, this.2]; rfl
  have He2 := Lib.hid (mayE_yes h2)
  clear hq h1 h2 hlv hbig
  go_enter Try.func59, Try.ntmps59
  go_wp2_with fail
  refine Hq.out.mono ?_; rintro e w1 ⟨rfl, hb1⟩
  rw [He.out]
  have hm1 := hm0.below hb1 (by omega)
  have hz1 := hz0.below hb1 (by omega)
  have ht1 := ht0.below hb1 (by omega)
  have hbel := hb0.trans (hb1.mono (by omega))
  have hr1 := (hr.more hB).below hbel
  have hg1 : w.heap.size + 3 ≤ w1.heap.size := by have := hb1.size; omega
  have hq2 := may_any (.agg #[.bool t.never, .int .u8 t.c, .slice A n cp]) t w1 w.heap.size ⟨A, n, cp, rfl, hr1⟩ (by omega)
  have Hq2 := Lib.hid hq2
  have x0 : w1.cell? ⟨w.heap.size + 1, 0, none⟩ = some (.bool t.never) := ht1.cell 0
  have x1 : w1.cell? ⟨w.heap.size + 1, 1, none⟩ = some (.int .u8 t.c) := ht1.cell 1
  have x2 : w1.cell? ⟨w.heap.size + 1, 2, none⟩ = some (.slice A n cp) := ht1.cell 2
  clear hs0 hq2
  go_wp2_with fail
  refine Hq2.out.mono ?_; rintro e w2 ⟨rfl, hb2⟩
  rw [He2.out]
  have hm2 := hm1.below hb2 (by omega)
  have hz2 := hz1.below hb2 (by omega)
  have ht2 := ht1.below hb2 (by omega)
  have hbel2 := hbel.trans (hb2.mono (by omega))
  have hr2 := hr1.below (hb2.mono (by omega))
  have hg2 : w.heap.size + 3 ≤ w2.heap.size := by have := hb2.size; omega
  clear x0 x1 x2 hb0 hm0 ht0 hz0 hb1 hm1 hz1 ht1 hbel hr hr1 Hq Hq2 He He2 hb2
  have z0 : w2.cell? ⟨w.heap.size + 1 + 1, 0, none⟩ = some (.bool false) := hz2.cell 0
  have z1 : w2.cell? ⟨w.heap.size + 1 + 1, 1, none⟩ = some (.int .u8 0) := hz2.cell 1
  have z2 : w2.cell? ⟨w.heap.size + 1 + 1, 2, none⟩ = some (.slice none 0 0) := hz2.cell 2
  have f0 := hz2.frozen 0
  have f1 := hz2.frozen 1
  have f2 := hz2.frozen 2
  have m0 : w2.cell? ⟨w.heap.size, 0, none⟩ = some (.int .i64 v) := hm2.cell 0
  have m1 : w2.cell? ⟨w.heap.size, 1, none⟩ = some (.int .u8 c) := hm2.cell 1
  cases htn : t.never
  · rw [htn] at ht2
    have y0 : w2.cell? ⟨w.heap.size + 1, 0, none⟩ = some (.bool false) := ht2.cell 0
    have y1 : w2.cell? ⟨w.heap.size + 1, 1, none⟩ = some (.int .u8 t.c) := ht2.cell 1
    have y2 : w2.cell? ⟨w.heap.size + 1, 2, none⟩ = some (.slice A n cp) := ht2.cell 2
    by_cases hc : c = 0
    · have hcb : (c == 0) = true := by simp [hc]
      have hj : scaleT c v t = cleanT t.c (t.vars ++ [v]) := by unfold scaleT; rw [htn, if_neg (by simp), if_pos hc]
      have Hj := Lib.hid hj
      have Hl8 : Hid (n * 8 ≤ 140737488355328) := by show n * 8 ≤ 140737488355328; have := Hbig.out; rw [Hlv.out] at this; omega
      have Hl9 : Hid ((n + 1) * 8 ≤ 140737488355328) := by show (n + 1) * 8 ≤ 140737488355328; have := Hbig.out; rw [Hlv.out] at this; omega
      have Hn63 : Hid (n + 1 ≤ maxLen) := by show n + 1 ≤ 9223372036854775807; have := Hbig.out; rw [Hlv.out] at this; omega
      obtain ⟨i0, hi0, hi1, hi2, hi3⟩ := info_parts intInfo
      have hnb : w.heap.size + 1 ≠ w.heap.size + 1 + 1 := by omega
      have hnb0 : w.heap.size ≠ w.heap.size + 1 + 1 := by omega
      have hl1 : w.heap.size + 1 < w2.heap.size := by omega
      have hl0 : w.heap.size < w2.heap.size := by omega
      have hx : ∀ w', Below w2.heap.size w2 w' → w'.cell? ⟨w.heap.size + 1, 1, none⟩ = some (.int .u8 t.c) ∧ w'.cell? ⟨w.heap.size + 1, 2, none⟩ = some (.slice A n cp) ∧ w'.cell? ⟨w.heap.size, 0, none⟩ = some (.int .i64 v) :=
        fun w' hb => ⟨(hb.cell (p := ⟨w.heap.size + 1, 1, none⟩) hl1).trans y1, (hb.cell (p := ⟨w.heap.size + 1, 2, none⟩) hl1).trans y2, (hb.cell (p := ⟨w.heap.size, 0, none⟩) hl0).trans m0⟩
      have Hx := Lib.hid hx
      have Hr2 := Lib.hid hr2
      clear hj htn hr2 hx
      go_wp2_with fail
      go_region_held3 (fun w' => w'.cell? ⟨w.heap.size + 1, 1, none⟩ = some (.int .u8 t.c) ∧ w'.cell? ⟨w.heap.size + 1, 2, none⟩ = some (.slice A n cp) ∧ w'.cell? ⟨w.heap.size, 0, none⟩ = some (.int .i64 v))
        (first | (go_keep; done) | (refine ⟨?_, ?_, ?_⟩ <;> (go_keep; done)) | exact Hx.out _ (Below.refl _ _).drew | exact Hx.out _ hbx | exact Hx.out _ ((Below.refl _ _).drew.alloc (Nat.le_refl _) _) | exact Hx.out _ (hbx.alloc hbx.size _) | exact ⟨(set3_other _ _ hnb _ _ _).trans (Hx.out _ hbx).1, (set3_other _ _ hnb _ _ _).trans (Hx.out _ hbx).2.1, (set3_other _ _ hnb0 _ _ _).trans (Hx.out _ hbx).2.2⟩)
        (first
          | (go_at_call 67; refine (cloneI_any A n cp t.vars w2.drew w.heap.size (Hr2.out.keep (w' := w2.drew) fun _ _ => rfl) Hl8.out).mono ?_; rintro e w3 ⟨A3, c3, rfl, hown3, hb3⟩; have hbx : Below w2.heap.size w2 w3 := ((Below.refl _ _).drew).trans hb3)
          | (go_at_call 67; refine (cloneI_any A n cp t.vars (w2.drew.alloc (Obj.cells #[.int .i64 v] 3)) w.heap.size (Hr2.out.keep (w' := w2.drew.alloc (Obj.cells #[.int .i64 v] 3)) fun p hp => ((Below.refl w2.heap.size w2).drew.alloc (Nat.le_refl _) _).cell (by omega)) Hl8.out).mono ?_; rintro e w3 ⟨A3, c3, rfl, hown3, hb3⟩; have hbx : Below w2.heap.size w2 w3 := ((Below.refl w2.heap.size w2).drew.alloc (Nat.le_refl _) _).trans (hb3.mono (by simp)))
          | (refine step_append_rd (o := ⟨some 40, _, _, _, _, _⟩) _ (by rfl) (.tmp 36) (.tmp 39) 35 (by rfl) w2.heap.size 3 i0 _ 1 8 Try.underlying35 hi0 hi1 hi2 hi3 rfl (by omega) (.slice A3 n c3) n (t.vars.map (Value.int .i64)) (by rfl) (hown3.alloc _) (w3.heap.size + 1) (some ⟨w3.heap.size, 0, none⟩) 1 1 [.int .i64 v] (by rfl) (rd_new1 _ _ _) (by intro u hu; simp at hu; subst hu; rfl) Hn63.out Hl9.out (by have := hbx.size; simp; omega) ?_; intro v4 w4 ho4 hg4 hat4;
              have hbx := (hbx.alloc hbx.size (Obj.cells #[.int .i64 v] 3)).grown hg4 (by have := hbx.size; simp; omega) (fun j hj => (hown3.lt j hj).1);
              obtain ⟨A4, c4, rfl, hr4⟩ := own_slice ho4)
          | (refine step_append_rd (o := ⟨some 40, _, _, _, _, _⟩) _ (by rfl) (.tmp 36) (.tmp 39) 35 (by rfl) (w2.drew.alloc (Obj.cells #[.int .i64 v] 3)).heap.size 3 i0 _ 1 8 Try.underlying35 hi0 hi1 hi2 hi3 rfl (by omega) (.slice A3 n c3) n (t.vars.map (Value.int .i64)) (by rfl) hown3 (w2.heap.size + 1) (some ⟨w2.heap.size, 0, none⟩) 1 1 [.int .i64 v] (by rfl) ((rd_new1 w2.drew (.int .i64 v) 3).keep fun p hp => hb3.cell (by have hp' : p.block < w2.heap.size + 1 := hp; simpa using hp')) (by intro u hu; simp at hu; subst hu; rfl) Hn63.out Hl9.out hb3.size ?_; intro v4 w4 ho4 hg4 hat4;
              have hbx := hbx.grown hg4 hbx.size (fun j hj => by have := (hown3.lt j hj).1; simp at this; omega);
              obtain ⟨A4, c4, rfl, hr4⟩ := own_slice ho4)
          | (go_at_call 73; refine (clean_fresh t.c A4 (n + 1) c4 (t.vars ++ [v]) w4 w4.heap.size hr4 (Nat.le_refl _) Hl9.out).mono ?_; rintro e w5 ⟨A7, n7, c7, rfl, hr7, hb7, hf7⟩; have HF7 : Hid (0 < n7 → ∃ a, A7 = some a ∧ w.heap.size ≤ a.block) := Lib.hid (fun h => by obtain ⟨a, e, ha⟩ := hf7 h; exact ⟨a, e, Nat.le_trans hbel2.size (Nat.le_trans hbx.size ha)⟩); clear hf7;
              have hbx := hbx.trans (hb7.mono hbx.size); have hz5 := hz2.below hbx hz2.lt; generalize cleanT t.c (t.vars ++ [v]) = T at Hj hr7;
              have g0 : w5.cell? ⟨w.heap.size + 1 + 1, 0, none⟩ = some (.bool false) := hz5.cell 0; have g1 : w5.cell? ⟨w.heap.size + 1 + 1, 1, none⟩ = some (.int .u8 0) := hz5.cell 1; have g2 : w5.cell? ⟨w.heap.size + 1 + 1, 2, none⟩ = some (.slice none 0 0) := hz5.cell 2;
              have p0 := hz5.frozen 0; have p1 := hz5.frozen 1; have p2 := hz5.frozen 2))
      all_goals
        have hb5 := hbel2.trans (hbx.mono (by omega))
        have Hr7 := Lib.hid hr7
        go_wp2_with fail
        have hs := hz5.set3 (.bool T.never) (.int .u8 T.c) (.slice A7 n7 c7)
        have hb3 := ((hb5.setCell (p := ⟨w.heap.size + 1 + 1, 0, none⟩) (by show w.heap.size ≤ w.heap.size + 1 + 1; omega) (.bool T.never)).setCell (p := ⟨w.heap.size + 1 + 1, 1, none⟩) (by show w.heap.size ≤ w.heap.size + 1 + 1; omega) (.int .u8 T.c)).setCell (p := ⟨w.heap.size + 1 + 1, 2, none⟩) (by show w.heap.size ≤ w.heap.size + 1 + 1; omega) (.slice A7 n7 c7)
        have hr8 := Hr7.out.put3 hz5 (.bool T.never) (.int .u8 T.c) (.slice A7 n7 c7)
        have hr9 := hr8.more (B' := (((w5.setCell ⟨w.heap.size + 1 + 1, 0, none⟩ (.bool T.never)).setCell ⟨w.heap.size + 1 + 1, 1, none⟩ (.int .u8 T.c)).setCell ⟨w.heap.size + 1 + 1, 2, none⟩ (.slice A7 n7 c7)).heap.size) (by simp)
        generalize (((w5.setCell ⟨w.heap.size + 1 + 1, 0, none⟩ (.bool T.never)).setCell ⟨w.heap.size + 1 + 1, 1, none⟩ (.int .u8 T.c)).setCell ⟨w.heap.size + 1 + 1, 2, none⟩ (.slice A7 n7 c7)) = W3 at hs hb3 hr9 ⊢
        have d0 : W3.cell? ⟨w.heap.size + 1 + 1, 0, none⟩ = some (.bool T.never) := hs.cell 0
        have d1 : W3.cell? ⟨w.heap.size + 1 + 1, 1, none⟩ = some (.int .u8 T.c) := hs.cell 1
        have d2 : W3.cell? ⟨w.heap.size + 1 + 1, 2, none⟩ = some (.slice A7 n7 c7) := hs.cell 2
        exact bodyPost_ret (v := .tuple #[.agg #[.bool T.never, .int .u8 T.c, .slice A7 n7 c7], .int .i64 0]) (by simp [results, Try.results59, go_sem, d0, d1, d2]) rfl (by rw [Hj.out]; exact ⟨A7, n7, c7, rfl, hr9, hb3, fun h => by obtain ⟨a, e, ha⟩ := HF7.out h; exact ⟨a, e, by omega⟩⟩)
    · have hcb : (c == 0) = false := by simp [hc]
      have hj : scaleT c v t = cleanT (max c t.c) t.vars := by unfold scaleT; rw [htn, if_neg (by simp), if_neg hc]
      have Hj := Lib.hid hj
      clear hj htn
      have Hl8 : Hid (n * 8 ≤ 140737488355328) := by show n * 8 ≤ 140737488355328; have := Hbig.out; rw [Hlv.out] at this; omega
      have Hr2 := Lib.hid hr2
      clear hr2
      go_wp2_with fail
      refine (clean_fresh (max c t.c) A n cp t.vars w2 w.heap.size Hr2.out (by omega) Hl8.out).mono ?_
      rintro e w5 ⟨A7, n7, c7, rfl, hr7, hb7, hf7⟩
      have HF7 : Hid (0 < n7 → ∃ a, A7 = some a ∧ w.heap.size ≤ a.block) := Lib.hid (fun h => by obtain ⟨a, e, ha⟩ := hf7 h; exact ⟨a, e, Nat.le_trans hbel2.size ha⟩)
      clear hf7
      have hz5 := hz2.below hb7 hz2.lt
      have hb5 := hbel2.trans (hb7.mono (by omega))
      generalize cleanT (max c t.c) t.vars = T at Hj hr7
      have g0 : w5.cell? ⟨w.heap.size + 1 + 1, 0, none⟩ = some (.bool false) := hz5.cell 0
      have g1 : w5.cell? ⟨w.heap.size + 1 + 1, 1, none⟩ = some (.int .u8 0) := hz5.cell 1
      have g2 : w5.cell? ⟨w.heap.size + 1 + 1, 2, none⟩ = some (.slice none 0 0) := hz5.cell 2
      have p0 := hz5.frozen 0
      have p1 := hz5.frozen 1
      have p2 := hz5.frozen 2
      have Hr7 := Lib.hid hr7
      clear hr7 hz2 hbel2 hb7 Hr2 f0 f1 f2 z0 z1 z2 y0 y1 y2 m0 m1
      go_wp2_with fail
      have hs := hz5.set3 (.bool T.never) (.int .u8 T.c) (.slice A7 n7 c7)
      have hb3 := ((hb5.setCell (p := ⟨w.heap.size + 1 + 1, 0, none⟩) (by show w.heap.size ≤ w.heap.size + 1 + 1; omega) (.bool T.never)).setCell (p := ⟨w.heap.size + 1 + 1, 1, none⟩) (by show w.heap.size ≤ w.heap.size + 1 + 1; omega) (.int .u8 T.c)).setCell (p := ⟨w.heap.size + 1 + 1, 2, none⟩) (by show w.heap.size ≤ w.heap.size + 1 + 1; omega) (.slice A7 n7 c7)
      have hr8 := Hr7.out.put3 hz5 (.bool T.never) (.int .u8 T.c) (.slice A7 n7 c7)
      have hr9 := hr8.more (B' := (((w5.setCell ⟨w.heap.size + 1 + 1, 0, none⟩ (.bool T.never)).setCell ⟨w.heap.size + 1 + 1, 1, none⟩ (.int .u8 T.c)).setCell ⟨w.heap.size + 1 + 1, 2, none⟩ (.slice A7 n7 c7)).heap.size) (by simp)
      generalize (((w5.setCell ⟨w.heap.size + 1 + 1, 0, none⟩ (.bool T.never)).setCell ⟨w.heap.size + 1 + 1, 1, none⟩ (.int .u8 T.c)).setCell ⟨w.heap.size + 1 + 1, 2, none⟩ (.slice A7 n7 c7)) = W3 at hs hb3 hr9 ⊢
      have d0 : W3.cell? ⟨w.heap.size + 1 + 1, 0, none⟩ = some (.bool T.never) := hs.cell 0
      have d1 : W3.cell? ⟨w.heap.size + 1 + 1, 1, none⟩ = some (.int .u8 T.c) := hs.cell 1
      have d2 : W3.cell? ⟨w.heap.size + 1 + 1, 2, none⟩ = some (.slice A7 n7 c7) := hs.cell 2
      exact bodyPost_ret (v := .tuple #[.agg #[.bool T.never, .int .u8 T.c, .slice A7 n7 c7], .int .i64 0]) (by simp [results, Try.results59, go_sem, d0, d1, d2]) rfl (by rw [Hj.out]; exact ⟨A7, n7, c7, rfl, hr9, hb3, fun h => by obtain ⟨a, e, ha⟩ := HF7.out h; exact ⟨a, e, by omega⟩⟩)
  · rw [htn] at ht2
    have y0 : w2.cell? ⟨w.heap.size + 1, 0, none⟩ = some (.bool true) := ht2.cell 0
    have y1 : w2.cell? ⟨w.heap.size + 1, 1, none⟩ = some (.int .u8 t.c) := ht2.cell 1
    have y2 : w2.cell? ⟨w.heap.size + 1, 2, none⟩ = some (.slice A n cp) := ht2.cell 2
    have HNn := Lib.hid (HN.out htn)
    have hj : scaleT c v t = ⟨true, t.c, t.vars⟩ := by unfold scaleT; rw [if_pos htn]; cases t; simp at htn; subst htn; rfl
    have Hj := Lib.hid hj
    clear hj htn
    go_wp2_with fail
    have hs := hz2.set3 (.bool true) (.int .u8 t.c) (.slice A n cp)
    have hb3 := ((hbel2.setCell (p := ⟨w.heap.size + 1 + 1, 0, none⟩) (by show w.heap.size ≤ w.heap.size + 1 + 1; omega) (.bool true)).setCell (p := ⟨w.heap.size + 1 + 1, 1, none⟩) (by show w.heap.size ≤ w.heap.size + 1 + 1; omega) (.int .u8 t.c)).setCell (p := ⟨w.heap.size + 1 + 1, 2, none⟩) (by show w.heap.size ≤ w.heap.size + 1 + 1; omega) (.slice A n cp)
    have hr8 := (hr2.more (B' := w2.heap.size) (by omega)).put3 hz2 (.bool true) (.int .u8 t.c) (.slice A n cp)
    have hr9 := hr8.more (B' := (((w2.setCell ⟨w.heap.size + 1 + 1, 0, none⟩ (.bool true)).setCell ⟨w.heap.size + 1 + 1, 1, none⟩ (.int .u8 t.c)).setCell ⟨w.heap.size + 1 + 1, 2, none⟩ (.slice A n cp)).heap.size) (by simp)
    generalize (((w2.setCell ⟨w.heap.size + 1 + 1, 0, none⟩ (.bool true)).setCell ⟨w.heap.size + 1 + 1, 1, none⟩ (.int .u8 t.c)).setCell ⟨w.heap.size + 1 + 1, 2, none⟩ (.slice A n cp)) = W3 at hs hb3 hr9 ⊢
    have d0 : W3.cell? ⟨w.heap.size + 1 + 1, 0, none⟩ = some (.bool true) := hs.cell 0
    have d1 : W3.cell? ⟨w.heap.size + 1 + 1, 1, none⟩ = some (.int .u8 t.c) := hs.cell 1
    have d2 : W3.cell? ⟨w.heap.size + 1 + 1, 2, none⟩ = some (.slice A n cp) := hs.cell 2
    exact bodyPost_ret (v := .tuple #[.agg #[.bool true, .int .u8 t.c, .slice A n cp], .int .i64 0]) (by simp [results, Try.results59, go_sem, d0, d1, d2]) rfl (by rw [Hj.out]; exact ⟨A, n, cp, rfl, hr9, hb3, fun h => absurd h (by rw [HNn.out]; omega)⟩)


end Go.Proofs.Ytimlbpjdgnapoaa

/- Rows of uses and of terms that a call builds; sorted rows of ints; uses.of, its result below the lists. -/
namespace Go.Proofs.Ytimlbpjdgnapoaa
set_option linter.unusedVariables false
set_option linter.unusedSimpArgs false
open Go.RowKit Go.Sort

theorem usageInfo : (Try.prog.info? 41).map (fun i => (i.zero, i.size, i.bytes)) = some (some (.agg #[.int .i64 0, .bool false, .int .u8 0, .slice none 0 0]), 4, 40) := by kernel_rfl

/-- four cells of a row read as a use; its variables lie out of block own -/
def C4 (w : World) (own : Option Nat) (cs : List Value) (i : Nat) (x : UseD) : Prop :=
  ∃ A n c, cs[i * 4]? = some (.int .i64 x.v) ∧ cs[i * 4 + 1]? = some (.bool x.t.never) ∧ cs[i * 4 + 2]? = some (.int .u8 x.t.c) ∧ cs[i * 4 + 3]? = some (.slice A n c) ∧ RdI .i64 w w.heap.size A n c x.t.vars ∧ (0 < n → ∃ a, A = some a ∧ some a.block ≠ own)
/-- a row of uses of the call's own -/
def OwnU (w : World) (base : Nat) (v : Value) (n : Nat) (xs : List UseD) : Prop :=
  xs.length = n ∧ ∃ cs, w.ownsRow base 41 4 v n cs ∧ ∀ i (h : i < xs.length), C4 w v.ownBlock cs i xs[i]

theorem rdI_far {k : IntKind} {w w' : World} {row : Option Nat} {A : Option Addr} {n c : Nat} {us : List Int} (h : RdI k w w.heap.size A n c us) (hg : w.grownBy w' row) (hf : 0 < n → ∃ a, A = some a ∧ some a.block ≠ row) : RdI k w' w'.heap.size A n c us := by
  refine ⟨⟨h.1.1, fun hn => ?_⟩, h.2⟩
  obtain ⟨b, off, e, hb, hc⟩ := h.1.2 hn
  obtain ⟨a, e', hne⟩ := hf hn
  rw [e] at e'
  injection e' with e'
  subst e'
  exact ⟨b, off, e, Nat.lt_of_lt_of_le hb hg.size, fun j u hu => (World.cell?_of_block (hg.block b hb hne)).trans (hc j u hu)⟩

theorem OwnU.nil (w : World) (base : Nat) : OwnU w base (.slice none 0 0) 0 [] := ⟨rfl, [], World.ownsRow_nil _ _ _ _, fun i hi => absurd hi (by simp)⟩
theorem OwnU.beyond {w w' : World} {base : Nat} {v : Value} {n : Nat} {xs : List UseD} (h : OwnU w base v n xs) (hb : Below w.heap.size w w') : OwnU w' base v n xs := by
  obtain ⟨h1, cs, ho, hc⟩ := h
  refine ⟨h1, cs, ownsRow_beyond ho hb, fun i hi => ?_⟩
  obtain ⟨A, m, c, e0, e1, e2, e3, hr, hf⟩ := hc i hi
  exact ⟨A, m, c, e0, e1, e2, e3, (hr.below hb).more hb.size, hf⟩
theorem OwnU.form {w : World} {base : Nat} {v : Value} {n : Nat} {xs : List UseD} (h : OwnU w base v n xs) : ∃ A c, v = .slice A n c := by
  obtain ⟨_, cs, ho, _⟩ := h
  exact ownsRow_form ho
theorem OwnU.uses {w : World} {base : Nat} {A : Option Addr} {n m c : Nat} {xs : List UseD} (h : OwnU w base (.slice A m c) n xs) : m = n ∧ UsesV w w.heap.size A n c xs := by
  obtain ⟨hl, cs, hown, h4⟩ := h
  rcases hown.2 with ⟨e0, hn⟩ | ⟨g, cap, cur, e0, hb, hg, hn, hm, hs, ht⟩
  · injection e0 with e1 e2 e3
    subst e1; subst e2; subst e3
    subst hn
    exact ⟨rfl, hl, Nat.le_refl _, Nat.zero_le _, fun h => absurd h (by omega)⟩
  · injection e0 with e1 e2 e3
    subst e1; subst e2; subst e3
    refine ⟨rfl, hl, hn, hm, fun _ => ⟨g, 0, rfl, (Array.getElem?_eq_some_iff.1 hg).1, fun i hi => ?_⟩⟩
    obtain ⟨A', n', c', f0, f1, f2, f3, hr, _⟩ := h4 i hi
    refine ⟨?_, A', n', c', ?_, ?_, ?_, hr⟩
    · rw [show 0 + i * 4 = i * 4 from by omega, hown.cellAt _ (by omega)]; exact f0
    · rw [show 0 + i * 4 + 1 = i * 4 + 1 from by omega, hown.cellAt _ (by omega)]; exact f1
    · rw [show 0 + i * 4 + 1 + 1 = i * 4 + 2 from by omega, hown.cellAt _ (by omega)]; exact f2
    · rw [show 0 + i * 4 + 1 + 2 = i * 4 + 3 from by omega, hown.cellAt _ (by omega)]; exact f3
theorem OwnU.lt {w : World} {base : Nat} {v : Value} {n : Nat} {xs : List UseD} (h : OwnU w base v n xs) : ∀ g, v.ownBlock = some g → base ≤ g ∧ g < w.heap.size := fun g e => by
  obtain ⟨_, cs, ho, _⟩ := h
  exact ho.lt g e

section
variable {P : Program}
/-- append of one use, just laid, to a row of the call's own -/
theorem wpList_append_use {ops : Array Oper} {rest : List Oper} {o : Oper} {a : Act} {Q : Exit → Act → World → Prop} (w0 w : World) (hgd : o.guard = none) (s x : Operand) (t : TypeId)
    (ho : o.op = .call { callee := .builtin .append, args := #[s, x], argTypes := #[t, t] })
    (base : Nat) (i : TypeInfo) (z : Value) (ht : P.underlying t = some (.slice 41)) (hi : P.info? 41 = some i) (hz : i.zero = some z)
    (hsize : i.size = 4) (hby : i.bytes = 40) (hzs : z.cells.size = 4)
    (v : Value) (n : Nat) (xs : List UseD) (hs : a.eval s = v) (u : UseD) (A : Option Addr) (m c : Nat) (hr : RdI .i64 w w.heap.size A m c u.t.vars) (hf : 0 < m → ∃ a, A = some a ∧ some a.block ≠ v.ownBlock) (hx : a.eval x = .slice (some ⟨w.heap.size, 0, none⟩) 1 1)
    (hown : OwnU w base v n xs) (hn : n ≤ 1099511627776) (hbel : Below base w0 w) (hbase : base ≤ w.heap.size)
    (h : ∀ A' c' w', OwnU w' base (.slice A' (n + 1) c') (n + 1) (xs ++ [u]) → Below base w0 w' → wpList P ops Q rest (a.put o.dst (.slice A' (n + 1) c')) w') :
    wpList P ops Q (o :: rest) a (w.alloc (Obj.cells #[.int .i64 u.v, .bool u.t.never, .int .u8 u.t.c, .slice A m c] 41)) := by
  obtain ⟨hl, cs, hown, h4⟩ := hown
  have hrd : Rd (w.alloc (Obj.cells #[.int .i64 u.v, .bool u.t.never, .int .u8 u.t.c, .slice A m c] 41)) (w.heap.size + 1) 4 (some ⟨w.heap.size, 0, none⟩) 1 [.int .i64 u.v, .bool u.t.never, .int .u8 u.t.c, .slice A m c] :=
    ⟨rfl, fun _ => ⟨w.heap.size, 0, rfl, Nat.lt_succ_self _, fun j u hu => by rw [Nat.zero_add, World.cell?_alloc_new]; simpa using hu⟩⟩
  refine wpList_append_rd (w.alloc (Obj.cells #[.int .i64 u.v, .bool u.t.never, .int .u8 u.t.c, .slice A m c] 41)) hgd s x t ho base 41 i z 4 40 ht hi hz hsize hby hzs (by omega) v n cs hs (hown.alloc _) (w.heap.size + 1) _ 1 1 _ hx hrd (by intro u hu; simp at hu; rcases hu with rfl | rfl | rfl | rfl <;> rfl) (by unfold maxLen; omega) (by omega) (by rw [World.size_alloc]; omega) fun v' w' h2 h3 h5 => ?_
  obtain ⟨A', c', rfl⟩ := ownsRow_form h2
  have hb1 : Below w.heap.size w (w.alloc (Obj.cells #[.int .i64 u.v, .bool u.t.never, .int .u8 u.t.c, .slice A m c] 41)) := below_box _
  have hg : w.grownBy w' v.ownBlock := ⟨h3.os, h3.tape, h3.output, Nat.le_trans (by rw [World.size_alloc]; omega) h3.size, fun k hk hne => (h3.block k (by rw [World.size_alloc]; omega) hne).trans (Below.heap_alloc w _ k hk)⟩
  have hfar : ∀ (B : Option Addr) (l d : Nat) (us : List Int), RdI .i64 w w.heap.size B l d us → (0 < l → ∃ a, B = some a ∧ some a.block ≠ v.ownBlock) → RdI .i64 w' w'.heap.size B l d us ∧ (0 < l → ∃ a, B = some a ∧ some a.block ≠ (Value.slice A' (n + 1) c').ownBlock) := by
    intro B l d us hB hF
    refine ⟨rdI_far hB hg hF, fun hl => ?_⟩
    obtain ⟨a, rfl, hne⟩ := hF hl
    refine ⟨a, rfl, ?_⟩
    rcases h5 with h5 | h5
    · rw [h5]; exact hne
    · rw [h5]
      obtain ⟨b, off, e, hb, _⟩ := hB.1.2 hl
      injection e with e
      subst e
      rw [World.size_alloc]
      intro e
      injection e with e
      have e' : b = w.heap.size + 1 := e
      omega
  have hcl : cs.length = n * 4 := hown.1
  refine h A' c' w' ⟨by simp [hl], _, h2, fun i hi => ?_⟩ ((hbel.alloc hbase _).grown h3 (by rw [World.size_alloc]; omega) (fun k hk => (hown.lt _ hk).1))
  rcases Nat.lt_or_ge i xs.length with h | h
  · obtain ⟨B, l, d, e0, e1, e2, e3, hB, hF⟩ := h4 i h
    obtain ⟨k1, k2⟩ := hfar B l d _ hB hF
    rw [List.getElem_append_left h]
    exact ⟨B, l, d, by rw [List.getElem?_append_left (by omega)]; exact e0, by rw [List.getElem?_append_left (by omega)]; exact e1, by rw [List.getElem?_append_left (by omega)]; exact e2, by rw [List.getElem?_append_left (by omega)]; exact e3, k1, k2⟩
  · have hi' : i = n := by simp at hi; omega
    subst hi'
    obtain ⟨k1, k2⟩ := hfar A m c _ hr hf
    rw [List.getElem_append_right (by omega)]
    simp only [hl, Nat.sub_self, List.getElem_cons_zero]
    refine ⟨A, m, c, ?_, ?_, ?_, ?_, k1, k2⟩
    · rw [List.getElem?_append_right (by omega), hcl, Nat.sub_self]; rfl
    · rw [List.getElem?_append_right (by omega), hcl, show i * 4 + 1 - i * 4 = 1 from by omega]; rfl
    · rw [List.getElem?_append_right (by omega), hcl, show i * 4 + 2 - i * 4 = 2 from by omega]; rfl
    · rw [List.getElem?_append_right (by omega), hcl, show i * 4 + 3 - i * 4 = 3 from by omega]; rfl

/-- append of one term, just laid, to a row of the call's own; the terms' variables lie below B -/
theorem wpList_append_term {ops : Array Oper} {rest : List Oper} {o : Oper} {a : Act} {Q : Exit → Act → World → Prop} (w0 w : World) (hgd : o.guard = none) (s x : Operand) (t : TypeId)
    (ho : o.op = .call { callee := .builtin .append, args := #[s, x], argTypes := #[t, t] })
    (base B : Nat) (i : TypeInfo) (z : Value) (ht : P.underlying t = some (.slice 37)) (hi : P.info? 37 = some i) (hz : i.zero = some z)
    (hsize : i.size = 3) (hby : i.bytes = 32) (hzs : z.cells.size = 3)
    (v : Value) (n : Nat) (ts : List TermD) (hs : a.eval s = v) (u : TermD) (A : Option Addr) (m c : Nat) (hr : RdI .i64 w B A m c u.vars) (hx : a.eval x = .slice (some ⟨w.heap.size, 0, none⟩) 1 1)
    (hown : OwnT w base B v n ts) (hn : n ≤ 1099511627776) (hbel : Below base w0 w) (hbase : base ≤ w.heap.size) (hB : B ≤ base)
    (h : ∀ A' c' w', OwnT w' base B (.slice A' (n + 1) c') (n + 1) (ts ++ [u]) → Below base w0 w' → wpList P ops Q rest (a.put o.dst (.slice A' (n + 1) c')) w') :
    wpList P ops Q (o :: rest) a (w.alloc (Obj.cells #[.bool u.never, .int .u8 u.c, .slice A m c] 37)) := by
  obtain ⟨hl, cs, hown, h4⟩ := hown
  refine wpList_append_one w0 w hgd s x t ho base 37 i z 3 32 ht hi hz hsize hby hzs (by omega) v n cs hs [.bool u.never, .int .u8 u.c, .slice A m c] rfl (by intro u hu; simp at hu; rcases hu with rfl | rfl | rfl <;> rfl) hx hown (by unfold maxLen; omega) (by omega) hbel hbase fun A' c' w' h2 h3 hg h5 => ?_
  have hcl : cs.length = n * 3 := hown.1
  have hk : ∀ p : Addr, p.block < B → w'.cell? p = w.cell? p := fun p hp => World.cell?_of_block (hg.block p.block (by omega) (fun e => by have := (hown.lt _ e.symm).1; omega))
  refine h A' c' w' ⟨by simp [hl], _, h2, fun i hi => ?_⟩ h3
  rcases Nat.lt_or_ge i ts.length with h | h
  · obtain ⟨B, l, d, e0, e1, e2, hB⟩ := h4 i h
    rw [List.getElem_append_left h]
    exact ⟨B, l, d, by rw [List.getElem?_append_left (by omega)]; exact e0, by rw [List.getElem?_append_left (by omega)]; exact e1, by rw [List.getElem?_append_left (by omega)]; exact e2, hB.keep hk⟩
  · have hi' : i = n := by simp at hi; omega
    subst hi'
    rw [List.getElem_append_right (by omega)]
    simp only [hl, Nat.sub_self, List.getElem_cons_zero]
    refine ⟨A, m, c, ?_, ?_, ?_, hr.keep hk⟩
    · rw [List.getElem?_append_right (by omega), hcl, Nat.sub_self]; rfl
    · rw [List.getElem?_append_right (by omega), hcl, show i * 3 + 1 - i * 3 = 1 from by omega]; rfl
    · rw [List.getElem?_append_right (by omega), hcl, show i * 3 + 2 - i * 3 = 2 from by omega]; rfl
end

theorem OwnT.nil (w : World) (base B : Nat) : OwnT w base B (.slice none 0 0) 0 [] := ⟨rfl, [], World.ownsRow_nil _ _ _ _, fun i hi => absurd hi (by simp)⟩
theorem OwnT.beyond {w w' : World} {base B : Nat} {v : Value} {n : Nat} {ts : List TermD} (h : OwnT w base B v n ts) (hB : B ≤ w.heap.size) (hb : Below w.heap.size w w') : OwnT w' base B v n ts := by
  obtain ⟨h1, cs, ho, hc⟩ := h
  refine ⟨h1, cs, ownsRow_beyond ho hb, fun i hi => ?_⟩
  obtain ⟨A, m, c, e0, e1, e2, hr⟩ := hc i hi
  exact ⟨A, m, c, e0, e1, e2, hr.below (hb.mono hB)⟩

/-- slices.Sort and slices.Compact over a row of ints of the call's own, empty or not -/
theorem sort0_any (base : Nat) (v : Value) (us : List Int) (w0 w : World) (ho : w.ownsRow base 3 1 v us.length (us.map (Value.int .i64))) (hm : us.length < 4611686018427387904) (hbel : Below base w0 w) (hbase : base ≤ w.heap.size) :
    Calls Try.prog 62 #[v] w fun e w' => e = .returned (.tuple #[]) ∧ w'.ownsRow base 3 1 v us.length ((us.mergeSort fun x y => decide (x ≤ y)).map (Value.int .i64)) ∧ Below base w0 w' ∧ w.heap.size ≤ w'.heap.size := by
  by_cases h0 : us = []
  · subst h0
    obtain ⟨A, c, rfl⟩ := ownsRow_form ho
    refine (Try.slices_Sort_int_none A c w).mono ?_
    rintro e w' ⟨rfl, rfl⟩
    exact ⟨rfl, by simpa using ho, hbel, Nat.le_refl _⟩
  · refine (sortI_any base v us w ho h0 hm).mono ?_
    rintro e w' ⟨rfl, h1, h2⟩
    exact ⟨rfl, h1, hbel.grown h2 hbase (fun k hk => (ho.lt _ hk).1), h2.size⟩
theorem compact0_any (base : Nat) (v : Value) (us : List Int) (w0 w : World) (ho : w.ownsRow base 3 1 v us.length (us.map (Value.int .i64))) (hbel : Below base w0 w) :
    Calls Try.prog 63 #[v] w fun e w' => ∃ A c, e = .returned (.slice A (Lib.compact us).length c) ∧ w'.ownsRow base 3 1 (.slice A (Lib.compact us).length c) (Lib.compact us).length ((Lib.compact us).map (Value.int .i64)) ∧ Below base w0 w' ∧ w.heap.size ≤ w'.heap.size := by
  by_cases h0 : us = []
  · subst h0
    obtain ⟨A, c, rfl⟩ := ownsRow_form ho
    refine (Try.slices_Compact_int_empty A c w).mono ?_
    rintro e w' ⟨rfl, rfl⟩
    exact ⟨A, c, rfl, ho, hbel, Nat.le_refl _⟩
  · have hn0 : us.length ≠ 0 := fun e => h0 (List.eq_nil_of_length_eq_zero e)
    have hv : v ≠ .slice none 0 0 := by
      rintro rfl
      rcases ho.2 with ⟨_, e⟩ | ⟨_, _, _, e, _⟩
      · exact hn0 e
      · cases e
    obtain ⟨g, cap, rfl, hg1, hg2, hgc, hgm, hl, hH⟩ := Lib.holds_of_ownsRow ho hv
    have hk : (Lib.compact us).length ≤ us.length := compact_le us
    refine (Try.slices_Compact_int g 0 cap us w hH (by unfold maxLen at hgm; omega) hgc).mono ?_
    rintro e w' ⟨rfl, q, hw⟩
    refine ⟨_, _, rfl, ?_, ?_, ?_⟩
    · have h3 := Lib.ownsRow_putRow (q := q) (k := (Lib.compact us).length) ho (ys := Lib.compact us ++ List.replicate (us.length - (Lib.compact us).length) 0) (by rw [List.length_append, List.length_replicate]; omega) hk
      rw [List.take_left' rfl] at h3
      rw [hw]; exact h3
    · rw [hw]; exact Lib.below_putRow hbel hg1
    · rw [hw]; exact (Lib.below_putRow (Below.refl 0 w) (Nat.zero_le _)).size

/-- the call returns the term t, its variables below B -/
def RetL (B : Nat) (t : TermD) (w : World) (e : Ending) (w' : World) : Prop :=
  ∃ A n c, e = .returned (.agg #[.bool t.never, .int .u8 t.c, .slice A n c]) ∧ RdI .i64 w' B A n c t.vars ∧ Below w.heap.size w w'

theorem ofU_low (B : Nat) (v : Int) (A : Option Addr) (n c : Nat) (xs : List UseD) (w : World) (hx : UsesV w B A n c xs) (hB : B ≤ w.heap.size) (hr : RiseU xs) (hv : -9223372036854775808 ≤ v ∧ v ≤ 9223372036854775807) (hn : n ≤ 1048576) :
    Calls Try.prog 50 #[.slice A n c, .int .i64 v] w (RetL B (ofU xs v) w) := by
  have hxl := hx.len
  have n63 : n ≤ 9223372036854775807 := by omega
  have hb0 := below_box (w := w) (Obj.cells #[.bool false, .int .u8 0, .slice none 0 0] 37)
  have hk0 := blk_new w #[.bool false, .int .u8 0, .slice none 0 0] 37
  have hs := find_any v A n c xs (w.alloc (Obj.cells #[.bool false, .int .u8 0, .slice none 0 0] 37)) (((hx.more hB).below hb0).more hb0.size) hr hv hn
  have Hs := Lib.hid hs
  have Hb0 := Lib.hid hb0
  have Hk0 := Lib.hid hk0
  have Hx := Lib.hid hx
  have Hr := Lib.hid hr
  clear hs hb0 hk0 hx hr
  go_enter Try.func50, Try.ntmps50
  go_wp2_with fail
  refine Hs.out.mono ?_
  rintro e w1 ⟨i, b, rfl, h1, h2, hb⟩
  have hk1 := Hk0.out.below hb Hk0.out.lt
  have hb1 := Hb0.out.trans (hb.mono Hb0.out.size)
  have f0 := hk1.frozen 0
  have f1 := hk1.frozen 1
  have f2 := hk1.frozen 2
  have c0 : w1.cell? ⟨w.heap.size, 0, none⟩ = some (.bool false) := hk1.cell 0
  have c1 : w1.cell? ⟨w.heap.size, 1, none⟩ = some (.int .u8 0) := hk1.cell 1
  have c2 : w1.cell? ⟨w.heap.size, 2, none⟩ = some (.slice none 0 0) := hk1.cell 2
  have Hk1 := Lib.hid hk1
  have Hb1 := Lib.hid hb1
  cases b with
  | true =>
    obtain ⟨hil, hiv⟩ := h1 rfl
    have hof := ofU_some Hr.out hil hiv
    obtain ⟨bb, oo, q, hbb, hc⟩ := (Hx.out.below (hb1.mono hB)).at_ (by omega)
    subst q
    obtain ⟨_, Ax, nx, cx, e1, e2, e3, hrx⟩ := hc i hil
    obtain ⟨⟨xv, nv, tc, vs⟩, hx⟩ : ∃ x, xs[i] = x := ⟨_, rfl⟩
    rw [hx] at e1 e2 hrx hof
    dsimp only at e1 e2 hrx hof
    have Hof := Lib.hid hof
    replace e2 : w1.cell? ⟨bb, oo + i * 4 + 2, none⟩ = some (.int .u8 tc) := e2
    replace e3 : w1.cell? ⟨bb, oo + i * 4 + 3, none⟩ = some (.slice Ax nx cx) := e3
    have i1 : (0 : Int) ≤ (i : Int) := by omega
    have i2 : (i : Int) < n := by omega
    have Hrx := Lib.hid hrx
    clear hc hrx h1 h2 hb hof hx hiv hk1 hb1
    go_wp2_with fail
    rw [Hof.out]
    have hs := Hk1.out.set3 (.bool nv) (.int .u8 tc) (.slice Ax nx cx)
    have hb3 := ((Hb1.out.setCell (p := ⟨w.heap.size, 0, none⟩) (Nat.le_refl _) (.bool nv)).setCell (p := ⟨w.heap.size, 1, none⟩) (Nat.le_refl _) (.int .u8 tc)).setCell (p := ⟨w.heap.size, 2, none⟩) (Nat.le_refl _) (.slice Ax nx cx)
    have hr9 := Hrx.out.put3 Hk1.out (.bool nv) (.int .u8 tc) (.slice Ax nx cx)
    generalize (((w1.setCell ⟨w.heap.size, 0, none⟩ (.bool nv)).setCell ⟨w.heap.size, 1, none⟩ (.int .u8 tc)).setCell ⟨w.heap.size, 2, none⟩ (.slice Ax nx cx)) = W3 at hs hb3 hr9 ⊢
    have d0 : W3.cell? ⟨w.heap.size, 0, none⟩ = some (.bool nv) := hs.cell 0
    have d1 : W3.cell? ⟨w.heap.size, 1, none⟩ = some (.int .u8 tc) := hs.cell 1
    have d2 : W3.cell? ⟨w.heap.size, 2, none⟩ = some (.slice Ax nx cx) := hs.cell 2
    exact bodyPost_ret (v := .agg #[.bool nv, .int .u8 tc, .slice Ax nx cx]) (by simp [results, Try.results50, go_sem, d0, d1, d2]) rfl ⟨_, _, _, rfl, hr9, hb3⟩
  | false =>
    have Hof := Lib.hid (ofU_none (h2 rfl))
    have Hrx : Hid (RdI .i64 w1 B none 0 0 []) := Lib.hid RdI.nil
    clear h1 h2 hb hk1 hb1
    go_wp2_with fail
    rw [Hof.out]
    have hs := Hk1.out.set3 (.bool true) (.int .u8 0) (.slice none 0 0)
    have hb3 := ((Hb1.out.setCell (p := ⟨w.heap.size, 0, none⟩) (Nat.le_refl _) (.bool true)).setCell (p := ⟨w.heap.size, 1, none⟩) (Nat.le_refl _) (.int .u8 0)).setCell (p := ⟨w.heap.size, 2, none⟩) (Nat.le_refl _) (.slice none 0 0)
    have hr9 := Hrx.out.put3 Hk1.out (.bool true) (.int .u8 0) (.slice none 0 0)
    generalize (((w1.setCell ⟨w.heap.size, 0, none⟩ (.bool true)).setCell ⟨w.heap.size, 1, none⟩ (.int .u8 0)).setCell ⟨w.heap.size, 2, none⟩ (.slice none 0 0)) = W3 at hs hb3 hr9 ⊢
    have d0 : W3.cell? ⟨w.heap.size, 0, none⟩ = some (.bool true) := hs.cell 0
    have d1 : W3.cell? ⟨w.heap.size, 1, none⟩ = some (.int .u8 0) := hs.cell 1
    have d2 : W3.cell? ⟨w.heap.size, 2, none⟩ = some (.slice none 0 0) := hs.cell 2
    exact bodyPost_ret (v := .agg #[.bool true, .int .u8 0, .slice none 0 0]) (by simp [results, Try.results50, go_sem, d0, d1, d2]) rfl ⟨_, _, _, rfl, hr9, hb3⟩

end Go.Proofs.Ytimlbpjdgnapoaa

/- The contract of uses.each, for any function of terms. -/
namespace Go.Proofs.Ytimlbpjdgnapoaa
set_option linter.unusedVariables false
set_option linter.unusedSimpArgs false
open Go.RowKit Go.Sort

/-- the variables of lists, as they come -/
def varsOf (ls : List (List UseD)) : List Int := ls.flatMap fun l => l.map (·.v)
/-- what lists say of each variable -/
def eachU (F : List TermD → TermD) (ls : List (List UseD)) : List UseD := (sset (varsOf ls)).map fun v => ⟨v, F (ls.map fun l => ofU l v)⟩
/-- the call returns uses, and the error x -/
def RetUE (xs : List UseD) (x : Int) (w : World) (e : Ending) (w' : World) : Prop :=
  ∃ A n c, e = .returned (.tuple #[.slice A n c, .int .i64 x]) ∧ UsesV w' w'.heap.size A n c xs ∧ Below w.heap.size w w'

theorem varsOf_snoc (l : List (List UseD)) (x : List UseD) : varsOf (l ++ [x]) = varsOf l ++ x.map (·.v) := by simp [varsOf]
theorem varsOf_mem {ls : List (List UseD)} {v : Int} : v ∈ varsOf ls ↔ ∃ l ∈ ls, ∃ x ∈ l, x.v = v := by simp [varsOf]
theorem varsOf_take_le (ls : List (List UseD)) (k : Nat) (q : Nat) (h : k < ls.length) : (varsOf (ls.take k)).length + (ls[k].take q).length ≤ (varsOf ls).length := by
  have h1 : ls = ls.take k ++ ls[k] :: ls.drop (k + 1) := by rw [← List.drop_eq_getElem_cons h, List.take_append_drop]
  have h2 : (varsOf ls).length = (varsOf (ls.take k)).length + ls[k].length + (varsOf (ls.drop (k + 1))).length := by
    conv => lhs; rw [h1]
    unfold varsOf
    rw [List.flatMap_append, List.flatMap_cons, List.length_append, List.length_append, List.length_map]
    omega
  have : (ls[k].take q).length ≤ ls[k].length := by rw [List.length_take]; omega
  omega

theorem each_no (A : Option Addr) (n c : Nat) (fv : Value) (ls : List (List UseD)) (w : World) (hr : LsV w w.heap.size A n c ls) (hno : ls.any (fun x => !mayU x) = true) :
    Calls Try.prog 43 #[.slice A n c, fv] w (RetUE [] 2 w) := by
  have hb := bad_any A n c ls w hr
  rw [hno] at hb
  have Hb := Lib.hid hb
  clear hb hno hr
  go_enter Try.func43, Try.ntmps43
  go_wp2_with fail
  refine Hb.out.mono ?_; rintro e w1 ⟨rfl, hb1⟩
  go_wp2_with fail
  exact bodyPost_ret (v := .tuple #[.slice none 0 0, .int .i64 2]) (by simp [results, Try.results43, go_sem]) rfl ⟨none, 0, 0, rfl, UsesV.nil, hb1⟩

set_option maxRecDepth 100000 in
set_option maxHeartbeats 4000000 in
theorem each_yes (A : Option Addr) (n c : Nat) (fid : Nat) (hent : Enters fid) (F : List TermD → TermD) (ls : List (List UseD)) (w : World) (hr : LsV w w.heap.size A n c ls) (hyes : ls.any (fun x => !mayU x) = false)
    (hn : n ≤ 1048576) (hV : (varsOf ls).length ≤ 1048576)
    (hf : ∀ (v : Int) (A : Option Addr) (m c : Nat) (w' : World), v ∈ varsOf ls → Below w.heap.size w w' → TermsV w' w'.heap.size A m c (ls.map fun l => ofU l v) → Calls Try.prog fid #[.slice A m c] w' (RetFE (F (ls.map fun l => ofU l v)) 0 w')) :
    Calls Try.prog 43 #[.slice A n c, .func (.func fid) #[] #[]] w (RetUE (eachU F ls) 0 w) := by
  have hb := bad_any A n c ls w hr
  rw [hyes] at hb
  have Hb := Lib.hid hb
  have hlen := hr.len
  have n63 : n ≤ 9223372036854775807 := by omega
  have Hr := Lib.hid hr
  have Hf := Lib.hid hf
  have hall : ∀ k (h : k < ls.length), mayU ls[k] = true := fun k h => by
    rw [List.any_eq_false] at hyes
    have := hyes _ (List.getElem_mem h)
    simpa using this
  have Hall := Lib.hid hall
  obtain ⟨i0, hi0, hz0, hz1, hz2⟩ := info_parts (show (Try.prog.info? 3).map (fun i => (i.zero, i.size, i.bytes)) = some (some (.int .i64 0), 1, 8) from by kernel_rfl)
  obtain ⟨i1, ht0, ht1, ht2, ht3⟩ := info_parts termInfo
  obtain ⟨i2, hu0, hu1, hu2, hu3⟩ := info_parts usageInfo
  unfold Enters at hent
  clear hb hyes hr hf hall
  go_enter Try.func43, Try.ntmps43
  go_wp2_with fail
  refine Hb.out.mono ?_; rintro e w1 ⟨rfl, hb1⟩
  clear Hb
  go_wp2_with fail
  go_loopg [6, 23] n (fun gh vs i wr => ∃ k : Nat, k ≤ n ∧ gh = n - k ∧ i = .int .i64 k ∧ wr.ownsRow w.heap.size 3 1 vs (varsOf (ls.take k)).length ((varsOf (ls.take k)).map (Value.int .i64)) ∧ Below w.heap.size w wr)
  case atStart => exact ⟨0, Nat.zero_le _, rfl, rfl, World.ownsRow_nil _ _ _ _, hb1⟩
  case round =>
    obtain ⟨k, hk, rfl, rfl, ho, hbel⟩ := hrel
    have Ho := Lib.hid ho
    have Hbel := Lib.hid hbel
    by_cases hkn : k < n
    · obtain ⟨b, o, q, hb, hc⟩ := Hr.out.at_ (by omega)
      subst q
      have hk' : k < ls.length := by omega
      obtain ⟨Ai, ni, ci, e0', hxi⟩ := hc k hk'
      have e0 : wr.cell? ⟨b, o + k, none⟩ = some (.slice Ai ni ci) := (hbel.cell (p := ⟨b, o + k, none⟩) hb).trans e0'
      have hxl := hxi.len
      have ni63 : ni ≤ 9223372036854775807 := Nat.le_trans hxi.2.1 hxi.2.2.1
      have Hxi := Lib.hid hxi
      have k1 : (0 : Int) ≤ (k : Int) := by omega
      have k2 : (k : Int) < n := by omega
      clear hc hxi ho hbel hb1 e0'
      go_wp2_with fail
      go_loopg [6, 29] ni (fun gh2 vs2 j wr2 => ∃ q : Nat, q ≤ ni ∧ gh2 = ni - q ∧ j = .int .i64 q ∧ wr2.ownsRow w.heap.size 3 1 vs2 (varsOf (ls.take k) ++ (ls[k].take q).map (·.v)).length ((varsOf (ls.take k) ++ (ls[k].take q).map (·.v)).map (Value.int .i64)) ∧ Below w.heap.size w wr2)
      case atStart => exact ⟨0, Nat.zero_le _, rfl, rfl, by simpa using Ho.out, Hbel.out⟩
      case round =>
        obtain ⟨q, hq, rfl, rfl, ho2, hbel2⟩ := hrel
        by_cases hqn : q < ni
        · obtain ⟨b2, o2, q2, hb2, hc2⟩ := (Hxi.out.below hbel2).at_ (by omega)
          subst q2
          have hq' : q < ls[k].length := by omega
          obtain ⟨y0, Ax, nx, cx, y1, y2, y3, hrx⟩ := hc2 q hq'
          have hstep : ls[k].take (q + 1) = ls[k].take q ++ [ls[k][q]] := List.take_succ_eq_append_getElem hq'
          have hle := varsOf_take_le ls k q hk'
          have hle2 : (varsOf (ls.take k) ++ (ls[k].take q).map (·.v)).length ≤ 1048576 := by
            rw [List.length_append, List.length_map]; omega
          have Hstep := Lib.hid hstep
          obtain ⟨x, hxq⟩ : ∃ x, ls[k][q] = x := ⟨_, rfl⟩
          rw [hxq] at y0 y1 y2 Hstep
          replace y2 : wr.cell? ⟨b2, o2 + q * 4 + 2, none⟩ = some (.int .u8 x.t.c) := y2
          replace y3 : wr.cell? ⟨b2, o2 + q * 4 + 3, none⟩ = some (.slice Ax nx cx) := y3
          have q1 : (0 : Int) ≤ (q : Int) := by omega
          have q2 : (q : Int) < ni := by omega
          clear hc2 hrx hstep hxq hle
          obtain ⟨m, hm⟩ : ∃ m, m = (varsOf (ls.take k) ++ (ls[k].take q).map (·.v)).length := ⟨_, rfl⟩
          rw [← hm] at ho2 hle2
          have Hm := Lib.hid hm
          obtain ⟨A1, c1, rfl⟩ := ownsRow_form ho2
          have hbx := hbel2.alloc hbel2.size (Obj.cells #[.int .i64 x.v, .bool x.t.never, .int .u8 x.t.c, .slice Ax nx cx] 41)
          have hox := ho2.alloc (Obj.cells #[.int .i64 x.v, .bool x.t.never, .int .u8 x.t.c, .slice Ax nx cx] 41)
          have Hbx := Lib.hid hbx
          have Hox := Lib.hid hox
          clear hbx hox ho2 hbel2 hm
          go_wp2_with (at_builtin; go_must (refine wpList_append_one w (wr.alloc (Obj.cells #[.int .i64 x.v, .bool x.t.never, .int .u8 x.t.c, .slice Ax nx cx] 41)) rfl (.tmp 33) (.tmp 36) 35 rfl w.heap.size 3 i0 _ 1 8 Try.underlying35 hi0 hz0 hz1 hz2 rfl (by omega) (.slice A1 m c1) m _ rfl [.int .i64 x.v] rfl (by intro u hu; simp at hu; subst hu; rfl) (by rw [World.size_alloc]; rfl) Hox.out (by unfold maxLen; omega) (by omega) Hbx.out Hbx.out.size ?_); intro A2 c2 w2 ho2 hbel2 hg2 hz2'; clear hg2)
          go_roundg (ni - (q + 1))
          case measure => omega
          case rel =>
            refine ⟨q + 1, by omega, rfl, by go_num, ?_, hbel2⟩
            rw [Hstep.out, List.map_append, ← List.append_assoc, List.length_append, ← Hm.out, List.map_append]
            exact ho2
        · have hq' : q = ni := by omega
          subst hq'
          have hall2 : varsOf (ls.take k) ++ (ls[k].take q).map (·.v) = varsOf (ls.take (k + 1)) := by
            rw [List.take_of_length_le (show ls[k].length ≤ q by omega), List.take_succ_eq_append_getElem hk', varsOf_snoc]
          rw [hall2] at ho2
          have Ho2 := Lib.hid ho2
          have Hbel2 := Lib.hid hbel2
          clear ho2 hbel2 hall2
          go_wp2_with fail
          go_roundg (n - (k + 1))
          case measure => omega
          case rel => exact ⟨k + 1, by omega, rfl, by go_num, Ho2.out, Hbel2.out⟩
    · have hkn' : n = k := by omega
      subst hkn'
      rw [List.take_of_length_le (by omega)] at ho
      have hs := sort0_any w.heap.size _ _ w wr ho (by omega) hbel hbel.size
      have Hs := Lib.hid hs
      clear hs ho hbel Ho Hbel hb1
      go_wp2_with fail
      refine Hs.out.mono ?_; rintro e w2 ⟨rfl, ho2, hbel2, hz2'⟩
      have hls : ((varsOf ls).mergeSort fun x y => decide (x ≤ y)).length = (varsOf ls).length := List.length_mergeSort _
      rw [← hls] at ho2
      have hs := compact0_any w.heap.size _ _ w w2 ho2 hbel2
      have Hs := Lib.hid hs
      clear hs ho2 hbel2 hls
      go_wp2_with fail
      refine Hs.out.mono ?_; rintro e w3 ⟨A3, c3, rfl, ho3, hbel3, hz3⟩
      change w3.ownsRow w.heap.size 3 1 (.slice A3 (sset (varsOf ls)).length c3) (sset (varsOf ls)).length ((sset (varsOf ls)).map (Value.int .i64)) at ho3
      have hVm : ∀ v, v ∈ sset (varsOf ls) → v ∈ varsOf ls := fun v hv => ((sset_rises _).2 v).1 hv
      change w3.ownsRow w.heap.size 3 1 (.slice A3 (sset (varsOf ls)).length c3) (sset (varsOf ls)).length ((sset (varsOf ls)).map (Value.int .i64)) at ho3
      have hVl : (sset (varsOf ls)).length ≤ 1048576 := by
        have h1 : (sset (varsOf ls)).length ≤ ((varsOf ls).mergeSort fun x y => decide (x ≤ y)).length := compact_le _
        rw [List.length_mergeSort] at h1
        omega
      have hRng : ∀ v, v ∈ varsOf ls → 0 ≤ v ∧ v < 1048576 := fun v hv => by
        obtain ⟨l, hl, x, hx, rfl⟩ := varsOf_mem.1 hv
        obtain ⟨j, hj, rfl⟩ := List.getElem_of_mem hl
        exact (mayU_rise (Hall.out j hj)).rng x hx
      have HP : Hid (eachU F ls = (sset (varsOf ls)).map fun v => ⟨v, F (ls.map fun l => ofU l v)⟩) := rfl
      have ho4 : ∃ V m, V.length = m ∧ m ≤ 1048576 ∧ (∀ v ∈ V, v ∈ varsOf ls) ∧ RdI .i64 w3 w3.heap.size A3 m c3 V ∧ Lib.compact ((varsOf ls).mergeSort fun x y => decide (x ≤ y)) = V ∧ V.length = m ∧ eachU F ls = V.map fun v => ⟨v, F (ls.map fun l => ofU l v)⟩ :=
        ⟨_, _, rfl, hVl, hVm, RdI.of_own ho3, rfl, rfl, rfl⟩
      obtain ⟨V, m, hVm1, hm, hVin, hrV, hVe, hVm2, hE⟩ := ho4
      rw [hVe, hVm2]
      have HrV := Lib.hid hrV
      have HVin := Lib.hid hVin
      have HRng := Lib.hid hRng
      have HE := Lib.hid hE
      clear ho3 hVl hVm hRng HP hrV hVin hVe hVm2 hE Hs
      have hk3 := Hr.out.below hbel3
      have Hbel3 := Lib.hid hbel3
      clear hbel3 hk3
      go_wp2_with fail
      go_loopg [11, 45] m (fun gh out j wr => ∃ k2 : Nat, k2 ≤ m ∧ gh = m - k2 ∧ j = .int .i64 k2 ∧ OwnU wr w3.heap.size out k2 ((V.take k2).map fun v => ⟨v, F (ls.map fun l => ofU l v)⟩) ∧ Below w3.heap.size w3 wr)
      case atStart => exact ⟨0, Nat.zero_le _, rfl, rfl, OwnU.nil _ _, Below.refl _ _⟩
      case round =>
        obtain ⟨k2, hk2, rfl, rfl, hou, hbelu⟩ := hrel
        by_cases hkm : k2 < m
        · obtain ⟨b, o, q, hb, hc⟩ := (HrV.out.below hbelu).at_ (by omega)
          subst q
          have hk2' : k2 < V.length := by omega
          have v0 := hc k2 hk2'
          obtain ⟨v, hv⟩ : ∃ v, V[k2] = v := ⟨_, rfl⟩
          have hvin := HVin.out V[k2] (List.getElem_mem hk2')
          rw [hv] at v0 hvin
          have hstep : V.take (k2 + 1) = V.take k2 ++ [v] := by rw [← hv]; exact List.take_succ_eq_append_getElem hk2'
          have Hstep := Lib.hid hstep
          have Hou := Lib.hid hou
          have Hbelu := Lib.hid hbelu
          have j1 : (0 : Int) ≤ (k2 : Int) := by omega
          have j2 : (k2 : Int) < m := by omega
          have m63 : m ≤ 9223372036854775807 := by omega
          clear hc hou hbelu hstep hv
          obtain ⟨w4, hw4⟩ : ∃ w4, w4 = wr := ⟨_, rfl⟩
          subst hw4
          have hw34 : Below w.heap.size w w4 := Hbel3.out.trans (Hbelu.out.mono Hbel3.out.size)
          have Hw34 := Lib.hid hw34
          have Hvin := Lib.hid hvin
          clear hw34 hvin
          go_wp2_with fail
          go_loopg [14, 51] n (fun gh vt j wr2 => ∃ q : Nat, q ≤ n ∧ gh = n - q ∧ j = .int .i64 q ∧ OwnT wr2 w4.heap.size w.heap.size vt q ((ls.take q).map fun l => ofU l v) ∧ Below w4.heap.size w4 wr2)
          case atStart => exact ⟨0, Nat.zero_le _, rfl, rfl, OwnT.nil _ _ _, Below.refl _ _⟩
          case round =>
            obtain ⟨q, hq, rfl, rfl, hot, hbelt⟩ := hrel
            by_cases hqn : q < n
            · obtain ⟨b6, o6, q6, hb6, hc6⟩ := Hr.out.at_ (by omega)
              subst q6
              have hq' : q < ls.length := by omega
              obtain ⟨Ai, ni, ci, e0', hxi⟩ := hc6 q hq'
              have hbw : Below w.heap.size w wr := Hw34.out.trans (hbelt.mono Hw34.out.size)
              have e0 : wr.cell? ⟨b6, o6 + q, none⟩ = some (.slice Ai ni ci) := (hbw.cell (p := ⟨b6, o6 + q, none⟩) hb6).trans e0'
              have hni : ni ≤ 1048576 := by
                have h1 := varsOf_take_le ls q ni hq'
                rw [List.take_of_length_le (show ls[q].length ≤ ni by rw [hxi.len]; omega), hxi.len] at h1
                omega
              have hcall := ofU_low w.heap.size v Ai ni ci ls[q] wr (hxi.below hbw) hbw.size (mayU_rise (Hall.out q hq')) (by have := HRng.out v Hvin.out; omega) hni
              have Hcall := Lib.hid hcall
              have hstep : (ls.take (q + 1)).map (fun l => ofU l v) = (ls.take q).map (fun l => ofU l v) ++ [ofU ls[q] v] := by rw [List.take_succ_eq_append_getElem hq', List.map_append]; rfl
              have Hst := Lib.hid hstep
              have Hot := Lib.hid hot
              have Hbelt := Lib.hid hbelt
              have q1 : (0 : Int) ≤ (q : Int) := by omega
              have q2 : (q : Int) < n := by omega
              clear hc6 hxi e0' hcall hstep hot hbelt
              go_wp2_with fail
              refine Hcall.out.mono ?_; rintro e w5 ⟨A5, n5, c5, rfl, hr5, hb5⟩
              have hot5 := Hot.out.beyond hbw.size hb5
              have hbel5 := Hbelt.out.trans (hb5.mono Hbelt.out.size)
              obtain ⟨A6, c6, rfl⟩ : ∃ A6 c6, u14 = .slice A6 q c6 := by
                obtain ⟨_, cs, ho, _⟩ := hot5
                exact ownsRow_form ho
              have Hot5 := Lib.hid hot5
              have Hbel5 := Lib.hid hbel5
              clear hot5 hbel5 hb5 Hcall
              go_wp2_with (at_builtin; go_must (refine wpList_append_term w4 w5 rfl (.tmp 55) (.tmp 59) 84 rfl w4.heap.size w.heap.size i1 _ Try.underlying84 ht0 ht1 ht2 ht3 rfl (.slice A6 q c6) q _ rfl (ofU ls[q] v) A5 n5 c5 hr5 rfl Hot5.out (by omega) Hbel5.out Hbel5.out.size Hw34.out.size ?_); intro A7 c7 w7 ho7 hb7)
              go_roundg (n - (q + 1))
              case measure => omega
              case rel => exact ⟨q + 1, by omega, rfl, by go_num, by rw [Hst.out]; exact ho7, hb7⟩
            · have hqn' : q = n := by omega
              subst hqn'
              rw [List.take_of_length_le (by omega)] at hot
              obtain ⟨A6, c6, rfl⟩ : ∃ A6 c6, u14 = .slice A6 q c6 := by
                obtain ⟨_, cs, ho, _⟩ := hot
                exact ownsRow_form ho
              have hbw : Below w.heap.size w wr := Hw34.out.trans (hbelt.mono Hw34.out.size)
              have hcall := Hf.out v A6 q c6 wr Hvin.out hbw (hot.terms hbw.size).2
              obtain ⟨T, hT⟩ : ∃ T, F (ls.map fun l => ofU l v) = T := ⟨_, rfl⟩
              rw [hT] at hcall
              have HT := Lib.hid hT
              have Hcall := Lib.hid hcall
              have hou4 := Hou.out.beyond hbelt
              have Hou4 := Lib.hid hou4
              have hbu4 := Hbelu.out.trans (hbelt.mono Hbelu.out.size)
              have Hbu4 := Lib.hid hbu4
              obtain ⟨A8, c8, rfl⟩ := hou4.form
              clear hT hcall hot hbelt hou4 hbw hbu4 Hou Hbelu Hw34
              have Hlt := Lib.hid (Hou4.out.lt)
              go_wp2_with fail
              refine Hcall.out.mono ?_; rintro e w8 ⟨A9, n9, c9, rfl, hr9, hb9, hf9⟩
              have hou8 := Hou4.out.beyond hb9
              have hbu8 := Hbu4.out.trans (hb9.mono Hbu4.out.size)
              have hbx := below_box (w := w8) (Obj.cells #[.bool T.never, .int .u8 T.c, .slice A9 n9 c9] 37)
              have Hou9 := Lib.hid (hou8.beyond hbx)
              have Hbu9 := Lib.hid (hbu8.trans (hbx.mono hbu8.size))
              have Hr9 := Lib.hid ((hr9.below hbx).more hbx.size)
              have hne9 : 0 < n9 → ∃ a, A9 = some a ∧ some a.block ≠ (Value.slice A8 k2 c8).ownBlock := fun h => by
                obtain ⟨a, e, ha⟩ := hf9 h
                refine ⟨a, e, fun e' => ?_⟩
                have := (Hlt.out _ e'.symm).2
                omega
              have Hne9 := Lib.hid hne9
              clear hou8 hbu8 hbx hr9 hf9 hne9 hb9 Hou4 Hbu4 Hlt Hcall
              go_wp2_with (at_builtin; go_must (refine wpList_append_use w3 (w8.alloc (Obj.cells #[.bool T.never, .int .u8 T.c, .slice A9 n9 c9] 37)) rfl (.tmp 71) (.tmp 75) 25 rfl w3.heap.size i2 _ Try.underlying25 hu0 hu1 hu2 hu3 rfl (.slice A8 k2 c8) k2 _ rfl ⟨v, T⟩ A9 n9 c9 Hr9.out Hne9.out (by rw [World.size_alloc]; rfl) Hou9.out (by omega) Hbu9.out Hbu9.out.size ?_); intro A10 c10 w10 ho10 hb10)
              go_roundg (m - (k2 + 1))
              case measure => omega
              case rel => exact ⟨k2 + 1, by omega, rfl, by go_num, by rw [Hstep.out, List.map_append, List.map_cons, HT.out]; exact ho10, hb10⟩
        · have hkm' : m = k2 := by omega
          subst hkm'
          rw [List.take_of_length_le (by omega), ← HE.out] at hou
          obtain ⟨A8, c8, rfl⟩ := hou.form
          have hbw : Below w.heap.size w wr := Hbel3.out.trans (hbelu.mono Hbel3.out.size)
          have HU := Lib.hid (hou.uses.2)
          clear hou hbelu
          go_wp2_with fail
          exact bodyPost_ret (v := .tuple #[.slice A8 m c8, .int .i64 0]) (by simp [results, Try.results43, go_sem]) rfl ⟨A8, m, c8, rfl, HU.out, hbw⟩

end Go.Proofs.Ytimlbpjdgnapoaa

/- uses.each again, for a function that has caught one variable (UsesE's lines). -/
namespace Go.Proofs.Ytimlbpjdgnapoaa
set_option linter.unusedVariables false
set_option linter.unusedSimpArgs false
open Go.RowKit Go.Sort

set_option maxRecDepth 100000 in
set_option maxHeartbeats 4000000 in
theorem each_yes1 (A : Option Addr) (n c : Nat) (fid : Nat) (p : Value) (hent : Enters fid) (F : List TermD → TermD) (ls : List (List UseD)) (w : World) (hr : LsV w w.heap.size A n c ls) (hyes : ls.any (fun x => !mayU x) = false)
    (hn : n ≤ 1048576) (hV : (varsOf ls).length ≤ 1048576)
    (hf : ∀ (v : Int) (A : Option Addr) (m c : Nat) (w' : World), v ∈ varsOf ls → Below w.heap.size w w' → TermsV w' w'.heap.size A m c (ls.map fun l => ofU l v) → Calls Try.prog fid #[.slice A m c, p] w' (RetFE (F (ls.map fun l => ofU l v)) 0 w')) :
    Calls Try.prog 43 #[.slice A n c, .func (.func fid) #[] #[p]] w (RetUE (eachU F ls) 0 w) := by
  have hb := bad_any A n c ls w hr
  rw [hyes] at hb
  have Hb := Lib.hid hb
  have hlen := hr.len
  have n63 : n ≤ 9223372036854775807 := by omega
  have Hr := Lib.hid hr
  have Hf := Lib.hid hf
  have hall : ∀ k (h : k < ls.length), mayU ls[k] = true := fun k h => by
    rw [List.any_eq_false] at hyes
    have := hyes _ (List.getElem_mem h)
    simpa using this
  have Hall := Lib.hid hall
  obtain ⟨i0, hi0, hz0, hz1, hz2⟩ := info_parts (show (Try.prog.info? 3).map (fun i => (i.zero, i.size, i.bytes)) = some (some (.int .i64 0), 1, 8) from by kernel_rfl)
  obtain ⟨i1, ht0, ht1, ht2, ht3⟩ := info_parts termInfo
  obtain ⟨i2, hu0, hu1, hu2, hu3⟩ := info_parts usageInfo
  unfold Enters at hent
  clear hb hyes hr hf hall
  go_enter Try.func43, Try.ntmps43
  go_wp2_with fail
  refine Hb.out.mono ?_; rintro e w1 ⟨rfl, hb1⟩
  clear Hb
  go_wp2_with fail
  go_loopg [6, 23] n (fun gh vs i wr => ∃ k : Nat, k ≤ n ∧ gh = n - k ∧ i = .int .i64 k ∧ wr.ownsRow w.heap.size 3 1 vs (varsOf (ls.take k)).length ((varsOf (ls.take k)).map (Value.int .i64)) ∧ Below w.heap.size w wr)
  case atStart => exact ⟨0, Nat.zero_le _, rfl, rfl, World.ownsRow_nil _ _ _ _, hb1⟩
  case round =>
    obtain ⟨k, hk, rfl, rfl, ho, hbel⟩ := hrel
    have Ho := Lib.hid ho
    have Hbel := Lib.hid hbel
    by_cases hkn : k < n
    · obtain ⟨b, o, q, hb, hc⟩ := Hr.out.at_ (by omega)
      subst q
      have hk' : k < ls.length := by omega
      obtain ⟨Ai, ni, ci, e0', hxi⟩ := hc k hk'
      have e0 : wr.cell? ⟨b, o + k, none⟩ = some (.slice Ai ni ci) := (hbel.cell (p := ⟨b, o + k, none⟩) hb).trans e0'
      have hxl := hxi.len
      have ni63 : ni ≤ 9223372036854775807 := Nat.le_trans hxi.2.1 hxi.2.2.1
      have Hxi := Lib.hid hxi
      have k1 : (0 : Int) ≤ (k : Int) := by omega
      have k2 : (k : Int) < n := by omega
      clear hc hxi ho hbel hb1 e0'
      go_wp2_with fail
      go_loopg [6, 29] ni (fun gh2 vs2 j wr2 => ∃ q : Nat, q ≤ ni ∧ gh2 = ni - q ∧ j = .int .i64 q ∧ wr2.ownsRow w.heap.size 3 1 vs2 (varsOf (ls.take k) ++ (ls[k].take q).map (·.v)).length ((varsOf (ls.take k) ++ (ls[k].take q).map (·.v)).map (Value.int .i64)) ∧ Below w.heap.size w wr2)
      case atStart => exact ⟨0, Nat.zero_le _, rfl, rfl, by simpa using Ho.out, Hbel.out⟩
      case round =>
        obtain ⟨q, hq, rfl, rfl, ho2, hbel2⟩ := hrel
        by_cases hqn : q < ni
        · obtain ⟨b2, o2, q2, hb2, hc2⟩ := (Hxi.out.below hbel2).at_ (by omega)
          subst q2
          have hq' : q < ls[k].length := by omega
          obtain ⟨y0, Ax, nx, cx, y1, y2, y3, hrx⟩ := hc2 q hq'
          have hstep : ls[k].take (q + 1) = ls[k].take q ++ [ls[k][q]] := List.take_succ_eq_append_getElem hq'
          have hle := varsOf_take_le ls k q hk'
          have hle2 : (varsOf (ls.take k) ++ (ls[k].take q).map (·.v)).length ≤ 1048576 := by
            rw [List.length_append, List.length_map]; omega
          have Hstep := Lib.hid hstep
          obtain ⟨x, hxq⟩ : ∃ x, ls[k][q] = x := ⟨_, rfl⟩
          rw [hxq] at y0 y1 y2 Hstep
          replace y2 : wr.cell? ⟨b2, o2 + q * 4 + 2, none⟩ = some (.int .u8 x.t.c) := y2
          replace y3 : wr.cell? ⟨b2, o2 + q * 4 + 3, none⟩ = some (.slice Ax nx cx) := y3
          have q1 : (0 : Int) ≤ (q : Int) := by omega
          have q2 : (q : Int) < ni := by omega
          clear hc2 hrx hstep hxq hle
          obtain ⟨m, hm⟩ : ∃ m, m = (varsOf (ls.take k) ++ (ls[k].take q).map (·.v)).length := ⟨_, rfl⟩
          rw [← hm] at ho2 hle2
          have Hm := Lib.hid hm
          obtain ⟨A1, c1, rfl⟩ := ownsRow_form ho2
          have hbx := hbel2.alloc hbel2.size (Obj.cells #[.int .i64 x.v, .bool x.t.never, .int .u8 x.t.c, .slice Ax nx cx] 41)
          have hox := ho2.alloc (Obj.cells #[.int .i64 x.v, .bool x.t.never, .int .u8 x.t.c, .slice Ax nx cx] 41)
          have Hbx := Lib.hid hbx
          have Hox := Lib.hid hox
          clear hbx hox ho2 hbel2 hm
          go_wp2_with (at_builtin; go_must (refine wpList_append_one w (wr.alloc (Obj.cells #[.int .i64 x.v, .bool x.t.never, .int .u8 x.t.c, .slice Ax nx cx] 41)) rfl (.tmp 33) (.tmp 36) 35 rfl w.heap.size 3 i0 _ 1 8 Try.underlying35 hi0 hz0 hz1 hz2 rfl (by omega) (.slice A1 m c1) m _ rfl [.int .i64 x.v] rfl (by intro u hu; simp at hu; subst hu; rfl) (by rw [World.size_alloc]; rfl) Hox.out (by unfold maxLen; omega) (by omega) Hbx.out Hbx.out.size ?_); intro A2 c2 w2 ho2 hbel2 hg2 hz2'; clear hg2)
          go_roundg (ni - (q + 1))
          case measure => omega
          case rel =>
            refine ⟨q + 1, by omega, rfl, by go_num, ?_, hbel2⟩
            rw [Hstep.out, List.map_append, ← List.append_assoc, List.length_append, ← Hm.out, List.map_append]
            exact ho2
        · have hq' : q = ni := by omega
          subst hq'
          have hall2 : varsOf (ls.take k) ++ (ls[k].take q).map (·.v) = varsOf (ls.take (k + 1)) := by
            rw [List.take_of_length_le (show ls[k].length ≤ q by omega), List.take_succ_eq_append_getElem hk', varsOf_snoc]
          rw [hall2] at ho2
          have Ho2 := Lib.hid ho2
          have Hbel2 := Lib.hid hbel2
          clear ho2 hbel2 hall2
          go_wp2_with fail
          go_roundg (n - (k + 1))
          case measure => omega
          case rel => exact ⟨k + 1, by omega, rfl, by go_num, Ho2.out, Hbel2.out⟩
    · have hkn' : n = k := by omega
      subst hkn'
      rw [List.take_of_length_le (by omega)] at ho
      have hs := sort0_any w.heap.size _ _ w wr ho (by omega) hbel hbel.size
      have Hs := Lib.hid hs
      clear hs ho hbel Ho Hbel hb1
      go_wp2_with fail
      refine Hs.out.mono ?_; rintro e w2 ⟨rfl, ho2, hbel2, hz2'⟩
      have hls : ((varsOf ls).mergeSort fun x y => decide (x ≤ y)).length = (varsOf ls).length := List.length_mergeSort _
      rw [← hls] at ho2
      have hs := compact0_any w.heap.size _ _ w w2 ho2 hbel2
      have Hs := Lib.hid hs
      clear hs ho2 hbel2 hls
      go_wp2_with fail
      refine Hs.out.mono ?_; rintro e w3 ⟨A3, c3, rfl, ho3, hbel3, hz3⟩
      change w3.ownsRow w.heap.size 3 1 (.slice A3 (sset (varsOf ls)).length c3) (sset (varsOf ls)).length ((sset (varsOf ls)).map (Value.int .i64)) at ho3
      have hVm : ∀ v, v ∈ sset (varsOf ls) → v ∈ varsOf ls := fun v hv => ((sset_rises _).2 v).1 hv
      change w3.ownsRow w.heap.size 3 1 (.slice A3 (sset (varsOf ls)).length c3) (sset (varsOf ls)).length ((sset (varsOf ls)).map (Value.int .i64)) at ho3
      have hVl : (sset (varsOf ls)).length ≤ 1048576 := by
        have h1 : (sset (varsOf ls)).length ≤ ((varsOf ls).mergeSort fun x y => decide (x ≤ y)).length := compact_le _
        rw [List.length_mergeSort] at h1
        omega
      have hRng : ∀ v, v ∈ varsOf ls → 0 ≤ v ∧ v < 1048576 := fun v hv => by
        obtain ⟨l, hl, x, hx, rfl⟩ := varsOf_mem.1 hv
        obtain ⟨j, hj, rfl⟩ := List.getElem_of_mem hl
        exact (mayU_rise (Hall.out j hj)).rng x hx
      have HP : Hid (eachU F ls = (sset (varsOf ls)).map fun v => ⟨v, F (ls.map fun l => ofU l v)⟩) := rfl
      have ho4 : ∃ V m, V.length = m ∧ m ≤ 1048576 ∧ (∀ v ∈ V, v ∈ varsOf ls) ∧ RdI .i64 w3 w3.heap.size A3 m c3 V ∧ Lib.compact ((varsOf ls).mergeSort fun x y => decide (x ≤ y)) = V ∧ V.length = m ∧ eachU F ls = V.map fun v => ⟨v, F (ls.map fun l => ofU l v)⟩ :=
        ⟨_, _, rfl, hVl, hVm, RdI.of_own ho3, rfl, rfl, rfl⟩
      obtain ⟨V, m, hVm1, hm, hVin, hrV, hVe, hVm2, hE⟩ := ho4
      rw [hVe, hVm2]
      have HrV := Lib.hid hrV
      have HVin := Lib.hid hVin
      have HRng := Lib.hid hRng
      have HE := Lib.hid hE
      clear ho3 hVl hVm hRng HP hrV hVin hVe hVm2 hE Hs
      have hk3 := Hr.out.below hbel3
      have Hbel3 := Lib.hid hbel3
      clear hbel3 hk3
      go_wp2_with fail
      go_loopg [11, 45] m (fun gh out j wr => ∃ k2 : Nat, k2 ≤ m ∧ gh = m - k2 ∧ j = .int .i64 k2 ∧ OwnU wr w3.heap.size out k2 ((V.take k2).map fun v => ⟨v, F (ls.map fun l => ofU l v)⟩) ∧ Below w3.heap.size w3 wr)
      case atStart => exact ⟨0, Nat.zero_le _, rfl, rfl, OwnU.nil _ _, Below.refl _ _⟩
      case round =>
        obtain ⟨k2, hk2, rfl, rfl, hou, hbelu⟩ := hrel
        by_cases hkm : k2 < m
        · obtain ⟨b, o, q, hb, hc⟩ := (HrV.out.below hbelu).at_ (by omega)
          subst q
          have hk2' : k2 < V.length := by omega
          have v0 := hc k2 hk2'
          obtain ⟨v, hv⟩ : ∃ v, V[k2] = v := ⟨_, rfl⟩
          have hvin := HVin.out V[k2] (List.getElem_mem hk2')
          rw [hv] at v0 hvin
          have hstep : V.take (k2 + 1) = V.take k2 ++ [v] := by rw [← hv]; exact List.take_succ_eq_append_getElem hk2'
          have Hstep := Lib.hid hstep
          have Hou := Lib.hid hou
          have Hbelu := Lib.hid hbelu
          have j1 : (0 : Int) ≤ (k2 : Int) := by omega
          have j2 : (k2 : Int) < m := by omega
          have m63 : m ≤ 9223372036854775807 := by omega
          clear hc hou hbelu hstep hv
          obtain ⟨w4, hw4⟩ : ∃ w4, w4 = wr := ⟨_, rfl⟩
          subst hw4
          have hw34 : Below w.heap.size w w4 := Hbel3.out.trans (Hbelu.out.mono Hbel3.out.size)
          have Hw34 := Lib.hid hw34
          have Hvin := Lib.hid hvin
          clear hw34 hvin
          go_wp2_with fail
          go_loopg [14, 51] n (fun gh vt j wr2 => ∃ q : Nat, q ≤ n ∧ gh = n - q ∧ j = .int .i64 q ∧ OwnT wr2 w4.heap.size w.heap.size vt q ((ls.take q).map fun l => ofU l v) ∧ Below w4.heap.size w4 wr2)
          case atStart => exact ⟨0, Nat.zero_le _, rfl, rfl, OwnT.nil _ _ _, Below.refl _ _⟩
          case round =>
            obtain ⟨q, hq, rfl, rfl, hot, hbelt⟩ := hrel
            by_cases hqn : q < n
            · obtain ⟨b6, o6, q6, hb6, hc6⟩ := Hr.out.at_ (by omega)
              subst q6
              have hq' : q < ls.length := by omega
              obtain ⟨Ai, ni, ci, e0', hxi⟩ := hc6 q hq'
              have hbw : Below w.heap.size w wr := Hw34.out.trans (hbelt.mono Hw34.out.size)
              have e0 : wr.cell? ⟨b6, o6 + q, none⟩ = some (.slice Ai ni ci) := (hbw.cell (p := ⟨b6, o6 + q, none⟩) hb6).trans e0'
              have hni : ni ≤ 1048576 := by
                have h1 := varsOf_take_le ls q ni hq'
                rw [List.take_of_length_le (show ls[q].length ≤ ni by rw [hxi.len]; omega), hxi.len] at h1
                omega
              have hcall := ofU_low w.heap.size v Ai ni ci ls[q] wr (hxi.below hbw) hbw.size (mayU_rise (Hall.out q hq')) (by have := HRng.out v Hvin.out; omega) hni
              have Hcall := Lib.hid hcall
              have hstep : (ls.take (q + 1)).map (fun l => ofU l v) = (ls.take q).map (fun l => ofU l v) ++ [ofU ls[q] v] := by rw [List.take_succ_eq_append_getElem hq', List.map_append]; rfl
              have Hst := Lib.hid hstep
              have Hot := Lib.hid hot
              have Hbelt := Lib.hid hbelt
              have q1 : (0 : Int) ≤ (q : Int) := by omega
              have q2 : (q : Int) < n := by omega
              clear hc6 hxi e0' hcall hstep hot hbelt
              go_wp2_with fail
              refine Hcall.out.mono ?_; rintro e w5 ⟨A5, n5, c5, rfl, hr5, hb5⟩
              have hot5 := Hot.out.beyond hbw.size hb5
              have hbel5 := Hbelt.out.trans (hb5.mono Hbelt.out.size)
              obtain ⟨A6, c6, rfl⟩ : ∃ A6 c6, u14 = .slice A6 q c6 := by
                obtain ⟨_, cs, ho, _⟩ := hot5
                exact ownsRow_form ho
              have Hot5 := Lib.hid hot5
              have Hbel5 := Lib.hid hbel5
              clear hot5 hbel5 hb5 Hcall
              go_wp2_with (at_builtin; go_must (refine wpList_append_term w4 w5 rfl (.tmp 55) (.tmp 59) 84 rfl w4.heap.size w.heap.size i1 _ Try.underlying84 ht0 ht1 ht2 ht3 rfl (.slice A6 q c6) q _ rfl (ofU ls[q] v) A5 n5 c5 hr5 rfl Hot5.out (by omega) Hbel5.out Hbel5.out.size Hw34.out.size ?_); intro A7 c7 w7 ho7 hb7)
              go_roundg (n - (q + 1))
              case measure => omega
              case rel => exact ⟨q + 1, by omega, rfl, by go_num, by rw [Hst.out]; exact ho7, hb7⟩
            · have hqn' : q = n := by omega
              subst hqn'
              rw [List.take_of_length_le (by omega)] at hot
              obtain ⟨A6, c6, rfl⟩ : ∃ A6 c6, u14 = .slice A6 q c6 := by
                obtain ⟨_, cs, ho, _⟩ := hot
                exact ownsRow_form ho
              have hbw : Below w.heap.size w wr := Hw34.out.trans (hbelt.mono Hw34.out.size)
              have hcall := Hf.out v A6 q c6 wr Hvin.out hbw (hot.terms hbw.size).2
              obtain ⟨T, hT⟩ : ∃ T, F (ls.map fun l => ofU l v) = T := ⟨_, rfl⟩
              rw [hT] at hcall
              have HT := Lib.hid hT
              have Hcall := Lib.hid hcall
              have hou4 := Hou.out.beyond hbelt
              have Hou4 := Lib.hid hou4
              have hbu4 := Hbelu.out.trans (hbelt.mono Hbelu.out.size)
              have Hbu4 := Lib.hid hbu4
              obtain ⟨A8, c8, rfl⟩ := hou4.form
              clear hT hcall hot hbelt hou4 hbw hbu4 Hou Hbelu Hw34
              have Hlt := Lib.hid (Hou4.out.lt)
              go_wp2_with fail
              refine Hcall.out.mono ?_; rintro e w8 ⟨A9, n9, c9, rfl, hr9, hb9, hf9⟩
              have hou8 := Hou4.out.beyond hb9
              have hbu8 := Hbu4.out.trans (hb9.mono Hbu4.out.size)
              have hbx := below_box (w := w8) (Obj.cells #[.bool T.never, .int .u8 T.c, .slice A9 n9 c9] 37)
              have Hou9 := Lib.hid (hou8.beyond hbx)
              have Hbu9 := Lib.hid (hbu8.trans (hbx.mono hbu8.size))
              have Hr9 := Lib.hid ((hr9.below hbx).more hbx.size)
              have hne9 : 0 < n9 → ∃ a, A9 = some a ∧ some a.block ≠ (Value.slice A8 k2 c8).ownBlock := fun h => by
                obtain ⟨a, e, ha⟩ := hf9 h
                refine ⟨a, e, fun e' => ?_⟩
                have := (Hlt.out _ e'.symm).2
                omega
              have Hne9 := Lib.hid hne9
              clear hou8 hbu8 hbx hr9 hf9 hne9 hb9 Hou4 Hbu4 Hlt Hcall
              go_wp2_with (at_builtin; go_must (refine wpList_append_use w3 (w8.alloc (Obj.cells #[.bool T.never, .int .u8 T.c, .slice A9 n9 c9] 37)) rfl (.tmp 71) (.tmp 75) 25 rfl w3.heap.size i2 _ Try.underlying25 hu0 hu1 hu2 hu3 rfl (.slice A8 k2 c8) k2 _ rfl ⟨v, T⟩ A9 n9 c9 Hr9.out Hne9.out (by rw [World.size_alloc]; rfl) Hou9.out (by omega) Hbu9.out Hbu9.out.size ?_); intro A10 c10 w10 ho10 hb10)
              go_roundg (m - (k2 + 1))
              case measure => omega
              case rel => exact ⟨k2 + 1, by omega, rfl, by go_num, by rw [Hstep.out, List.map_append, List.map_cons, HT.out]; exact ho10, hb10⟩
        · have hkm' : m = k2 := by omega
          subst hkm'
          rw [List.take_of_length_le (by omega), ← HE.out] at hou
          obtain ⟨A8, c8, rfl⟩ := hou.form
          have hbw : Below w.heap.size w wr := Hbel3.out.trans (hbelu.mono Hbel3.out.size)
          have HU := Lib.hid (hou.uses.2)
          clear hou hbelu
          go_wp2_with fail
          exact bodyPost_ret (v := .tuple #[.slice A8 m c8, .int .i64 0]) (by simp [results, Try.results43, go_sem]) rfl ⟨A8, m, c8, rfl, HU.out, hbw⟩

end Go.Proofs.Ytimlbpjdgnapoaa

/- uses.Join, Sum, Scale. -/
namespace Go.Proofs.Ytimlbpjdgnapoaa
set_option linter.unusedVariables false
set_option linter.unusedSimpArgs false
open Go.RowKit Go.Sort

theorem rises_len {l : List Int} (hr : Rises l) (h : ∀ v ∈ l, 0 ≤ v ∧ v < 1048576) : l.length ≤ 1048576 := by
  have key : ∀ (l : List Int) (a : Int), Rises l → (∀ v ∈ l, a ≤ v ∧ v < 1048576) → a ≤ 1048576 → (l.length : Int) ≤ 1048576 - a := by
    intro l
    induction l with
    | nil => intro a _ _ h; simp; omega
    | cons x l ih =>
      intro a hr h ha
      have hx := h x (by simp)
      have h1 := ih (x + 1) (List.Pairwise.of_cons hr) (fun v hv => ⟨by have := List.rel_of_pairwise_cons hr hv; omega, (h v (by simp [hv])).2⟩) (by omega)
      rw [List.length_cons]
      omega
  have := key l 0 hr h (by omega)
  omega
theorem may_vars_len {t : TermD} (h : mayB t = true) : t.vars.length ≤ 1048576 := by
  rcases (may_iff t).1 h with ⟨_, _, e⟩ | ⟨_, _, _, _, h1, h2⟩
  · rw [e]; simp
  · exact rises_len h1 h2
theorem never_may : mayB ⟨true, 0, []⟩ = true := by decide
theorem mayU_ofU {l : List UseD} (h : mayU l = true) (v : Int) : mayB (ofU l v) = true := by
  unfold ofU
  split
  · rename_i x hx
    exact ((mayFrom_rise _ _ h).1 x (List.mem_of_find?_eq_some hx)).2.2.2.2
  · exact never_may
theorem allMay_of {ls : List (List UseD)} (h : ∀ l ∈ ls, mayU l = true) (v : Int) : allMay (ls.map fun l => ofU l v) = true := by
  unfold allMay
  simp only [List.all_map, List.all_eq_true]
  intro l hl
  exact mayU_ofU (h l hl) v
theorem joinVs_small {ts : List TermD} (h : ∀ t ∈ ts, mayB t = true) : (joinVs ts).length ≤ ts.length * 1048576 := by
  induction ts with
  | nil => simp [joinVs]
  | cons t ts ih =>
    have h1 := ih fun t ht => h t (by simp [ht])
    have h2 := may_vars_len (h t (by simp))
    simp only [joinVs, List.flatMap_cons, List.length_append, List.length_cons] at h1 ⊢
    omega
theorem any_may {ls : List (List UseD)} (h : ls.any (fun x => !mayU x) = false) : ∀ l ∈ ls, mayU l = true := fun l hl => by
  rw [List.any_eq_false] at h
  have := h l hl
  simpa using this

theorem enters_tjoin : Enters 44 := fun args w => by kernel_rfl
theorem enters_tsum : Enters 45 := fun args w => by kernel_rfl
theorem enters_scale1 : Enters 58 := fun args w => by kernel_rfl

--@REP X|J|fr join|joinT|Join sum|sumT|Sum
--@END
theorem joinU_any (A : Option Addr) (n c : Nat) (ls : List (List UseD)) (w : World) (hr : LsV w w.heap.size A n c ls) (hn : n ≤ 1048576) (hV : (varsOf ls).length ≤ 1048576) :
    Calls Try.prog 10 #[.slice A n c] w (if ls.any (fun x => !mayU x) then RetUE [] 2 w else RetUE (eachU joinT ls) 0 w) := by
  cases hb : ls.any (fun x => !mayU x) with
  | true =>
    have hc := each_no A n c (.func (.func 44) #[] #[]) ls w hr hb
    have Hc := Lib.hid hc
    clear hc hr hb
    rw [if_pos rfl]
    go_enter Try.func10, Try.ntmps10
    go_wp2_with fail
    refine Hc.out.mono ?_; rintro e w1 ⟨A1, n1, c1, rfl, hu, hb1⟩
    go_wp2_with fail
    exact bodyPost_ret (v := .tuple #[.slice A1 n1 c1, .int .i64 2]) (by simp [results, Try.results10, go_sem]) rfl ⟨A1, n1, c1, rfl, hu, hb1⟩
  | false =>
    have hm := any_may hb
    have hlen := hr.len
    have hc := each_yes A n c 44 enters_tjoin joinT ls w hr hb hn hV (fun v A m c w' hv hb' ht => by
      have hml : m ≤ 1048576 := by rw [← ht.1, List.length_map, hlen]; exact hn
      refine join_fresh A m c _ w' ht (allMay_of hm v) (by omega) ?_
      have h1 := joinVs_small (ts := ls.map fun l => ofU l v) (fun t ht => by obtain ⟨l, hl, rfl⟩ := List.mem_map.1 ht; exact mayU_ofU (hm l hl) v)
      rw [ht.1] at h1
      have : m * 1048576 ≤ 1048576 * 1048576 := Nat.mul_le_mul_right _ hml
      omega)
    have Hc := Lib.hid hc
    clear hc hr hb hm
    rw [if_neg (by simp)]
    go_enter Try.func10, Try.ntmps10
    go_wp2_with fail
    refine Hc.out.mono ?_; rintro e w1 ⟨A1, n1, c1, rfl, hu, hb1⟩
    go_wp2_with fail
    exact bodyPost_ret (v := .tuple #[.slice A1 n1 c1, .int .i64 0]) (by simp [results, Try.results10, go_sem]) rfl ⟨A1, n1, c1, rfl, hu, hb1⟩
theorem sumU_any (A : Option Addr) (n c : Nat) (ls : List (List UseD)) (w : World) (hr : LsV w w.heap.size A n c ls) (hn : n ≤ 1048576) (hV : (varsOf ls).length ≤ 1048576) :
    Calls Try.prog 11 #[.slice A n c] w (if ls.any (fun x => !mayU x) then RetUE [] 2 w else RetUE (eachU sumT ls) 0 w) := by
  cases hb : ls.any (fun x => !mayU x) with
  | true =>
    have hc := each_no A n c (.func (.func 45) #[] #[]) ls w hr hb
    have Hc := Lib.hid hc
    clear hc hr hb
    rw [if_pos rfl]
    go_enter Try.func11, Try.ntmps11
    go_wp2_with fail
    refine Hc.out.mono ?_; rintro e w1 ⟨A1, n1, c1, rfl, hu, hb1⟩
    go_wp2_with fail
    exact bodyPost_ret (v := .tuple #[.slice A1 n1 c1, .int .i64 2]) (by simp [results, Try.results11, go_sem]) rfl ⟨A1, n1, c1, rfl, hu, hb1⟩
  | false =>
    have hm := any_may hb
    have hlen := hr.len
    have hc := each_yes A n c 45 enters_tsum sumT ls w hr hb hn hV (fun v A m c w' hv hb' ht => by
      have hml : m ≤ 1048576 := by rw [← ht.1, List.length_map, hlen]; exact hn
      refine sum_fresh A m c _ w' ht (allMay_of hm v) (by omega) ?_
      intro t ht
      obtain ⟨l, hl, rfl⟩ := List.mem_map.1 ht
      have := may_vars_len (mayU_ofU (hm l hl) v)
      omega)
    have Hc := Lib.hid hc
    clear hc hr hb hm
    rw [if_neg (by simp)]
    go_enter Try.func11, Try.ntmps11
    go_wp2_with fail
    refine Hc.out.mono ?_; rintro e w1 ⟨A1, n1, c1, rfl, hu, hb1⟩
    go_wp2_with fail
    exact bodyPost_ret (v := .tuple #[.slice A1 n1 c1, .int .i64 0]) (by simp [results, Try.results11, go_sem]) rfl ⟨A1, n1, c1, rfl, hu, hb1⟩

set_option maxHeartbeats 1000000 in
theorem scale1_any (c v : Int) (b : Nat) (A : Option Addr) (m cp : Nat) (t : TermD) (w : World) (hb : Blk w b 46 #[.int .i64 v, .int .u8 c]) (ht : TermsV w w.heap.size A m cp [t]) (h1 : isB c v = true) (h2 : mayB t = true) :
    Calls Try.prog 58 #[.slice A m cp, .pointer (some ⟨b, 0, none⟩)] w (RetFE (scaleT c v t) 0 w) := by
  have hm : 1 = m := ht.1
  subst hm
  obtain ⟨bt, ot, q, hbt, hct⟩ := ht.2.2.2 (by omega)
  subst q
  obtain ⟨A2, n2, c2, e0, e1, e2, hr⟩ := hct 0 (by simp)
  rw [Nat.zero_mul, Nat.add_zero] at e0 e1 e2
  simp only [List.getElem_cons_zero] at e0 e1 e2 hr
  have hbx := below_box (w := w) (Obj.cells #[.bool false, .int .u8 0, .slice none 0 0] 37)
  have hz := blk_new w #[.bool false, .int .u8 0, .slice none 0 0] 37
  have hc := scale_fresh c v (.agg #[.bool t.never, .int .u8 t.c, .slice A2 n2 c2]) t ((w.alloc (Obj.cells #[.bool false, .int .u8 0, .slice none 0 0] 37)).drew) w.heap.size ⟨A2, n2, c2, rfl, (hr.below hbx).keep fun _ _ => rfl⟩ hbx.size h1 h2 (by have := may_vars_len h2; omega)
  have m0 : (w.alloc (Obj.cells #[.bool false, .int .u8 0, .slice none 0 0] 37)).cell? ⟨b, 0, none⟩ = some (.int .i64 v) := (hbx.cell (p := ⟨b, 0, none⟩) hb.lt).trans (hb.cell 0)
  have m1 : (w.alloc (Obj.cells #[.bool false, .int .u8 0, .slice none 0 0] 37)).cell? ⟨b, 1, none⟩ = some (.int .u8 c) := (hbx.cell (p := ⟨b, 1, none⟩) hb.lt).trans (hb.cell 1)
  have f0 : (w.alloc (Obj.cells #[.bool false, .int .u8 0, .slice none 0 0] 37)).cell? ⟨bt, ot, none⟩ = some (.bool t.never) := (hbx.cell (p := ⟨bt, ot, none⟩) hbt).trans e0
  have f1 : (w.alloc (Obj.cells #[.bool false, .int .u8 0, .slice none 0 0] 37)).cell? ⟨bt, ot + 1, none⟩ = some (.int .u8 t.c) := (hbx.cell (p := ⟨bt, ot + 1, none⟩) hbt).trans e1
  have f2 : (w.alloc (Obj.cells #[.bool false, .int .u8 0, .slice none 0 0] 37)).cell? ⟨bt, ot + 2, none⟩ = some (.slice A2 n2 c2) := (hbx.cell (p := ⟨bt, ot + 2, none⟩) hbt).trans e2
  obtain ⟨T, hT⟩ : ∃ T, scaleT c v t = T := ⟨_, rfl⟩
  rw [hT] at hc ⊢
  clear hT
  have hbl := hb.lt
  have Hc := Lib.hid hc
  have Hbx := Lib.hid hbx
  have Hz := Lib.hid hz
  clear e0 e1 e2 hct hr hb hc hbx hz ht
  go_enter Try.func58, Try.ntmps58
  go_wp2_with fail
  generalize hW : (w.alloc (Obj.cells #[.bool false, .int .u8 0, .slice none 0 0] 37)) = W at Hc Hbx Hz m0 m1 f0 f1 f2 ⊢
  clear hW
  have hst : ∀ w', Below w.heap.size W w' → (w'.cell? ⟨b, 0, none⟩ = some (.int .i64 v) ∧ w'.cell? ⟨b, 1, none⟩ = some (.int .u8 c)) ∧ (w'.cell? ⟨bt, ot, none⟩ = some (.bool t.never) ∧ w'.cell? ⟨bt, ot + 1, none⟩ = some (.int .u8 t.c) ∧ w'.cell? ⟨bt, ot + 2, none⟩ = some (.slice A2 n2 c2)) := fun w' h =>
    ⟨⟨(h.cell (p := ⟨b, 0, none⟩) hbl).trans m0, (h.cell (p := ⟨b, 1, none⟩) hbl).trans m1⟩, (h.cell (p := ⟨bt, ot, none⟩) hbt).trans f0, (h.cell (p := ⟨bt, ot + 1, none⟩) hbt).trans f1, (h.cell (p := ⟨bt, ot + 2, none⟩) hbt).trans f2⟩
  have Hst := Lib.hid hst
  clear hst
  go_region_held3 (fun w' => (w'.cell? ⟨b, 0, none⟩ = some (.int .i64 v) ∧ w'.cell? ⟨b, 1, none⟩ = some (.int .u8 c)) ∧ (w'.cell? ⟨bt, ot, none⟩ = some (.bool t.never) ∧ w'.cell? ⟨bt, ot + 1, none⟩ = some (.int .u8 t.c) ∧ w'.cell? ⟨bt, ot + 2, none⟩ = some (.slice A2 n2 c2)))
    (first | go_keep | exact Hst.out _ (Below.refl _ _) | exact Hst.out _ (Below.refl _ _).drew | exact Hst.out _ hb8 | exact Hst.out _ (((hb8.setCell (p := ⟨w.heap.size, 0, none⟩) (Nat.le_refl _) (.bool T.never)).setCell (p := ⟨w.heap.size, 1, none⟩) (Nat.le_refl _) (.int .u8 T.c)).setCell (p := ⟨w.heap.size, 2, none⟩) (Nat.le_refl _) (.slice A7 n7 c7)))
    ((go_at_call 59; refine Hc.out.mono ?_; rintro e w5 ⟨A7, n7, c7, rfl, hr7, hb7, hf7⟩; replace hb7 : Below W.heap.size W w5 := ((Below.refl _ _).drew).trans hb7; have hs5 := Hz.out.below hb7 Hz.out.lt; have hb8 : Below w.heap.size W w5 := hb7.mono Hbx.out.size; have hb5 := Hbx.out.trans (hb7.mono Hbx.out.size);
          have g0 : w5.cell? ⟨w.heap.size, 0, none⟩ = some (.bool false) := hs5.cell 0; have g1 : w5.cell? ⟨w.heap.size, 1, none⟩ = some (.int .u8 0) := hs5.cell 1; have g2 : w5.cell? ⟨w.heap.size, 2, none⟩ = some (.slice none 0 0) := hs5.cell 2;
          have p0 := hs5.frozen 0; have p1 := hs5.frozen 1; have p2 := hs5.frozen 2))
  have HF7 : Hid (0 < n7 → ∃ a, A7 = some a ∧ w.heap.size ≤ a.block) := Lib.hid fun h => by
    obtain ⟨a, e, ha⟩ := hf7 h
    exact ⟨a, e, Nat.le_trans Hbx.out.size ha⟩
  have Hr7 := Lib.hid hr7
  clear hr7 hf7
  try go_wp2_with fail
  have hs := hs5.set3 (.bool T.never) (.int .u8 T.c) (.slice A7 n7 c7)
  have hb3 := ((hb5.setCell (p := ⟨w.heap.size, 0, none⟩) (Nat.le_refl _) (.bool T.never)).setCell (p := ⟨w.heap.size, 1, none⟩) (Nat.le_refl _) (.int .u8 T.c)).setCell (p := ⟨w.heap.size, 2, none⟩) (Nat.le_refl _) (.slice A7 n7 c7)
  have hr8 := Hr7.out.put3 hs5 (.bool T.never) (.int .u8 T.c) (.slice A7 n7 c7)
  have hr9 := hr8.more (B' := (((w5.setCell ⟨w.heap.size, 0, none⟩ (.bool T.never)).setCell ⟨w.heap.size, 1, none⟩ (.int .u8 T.c)).setCell ⟨w.heap.size, 2, none⟩ (.slice A7 n7 c7)).heap.size) (by simp)
  generalize (((w5.setCell ⟨w.heap.size, 0, none⟩ (.bool T.never)).setCell ⟨w.heap.size, 1, none⟩ (.int .u8 T.c)).setCell ⟨w.heap.size, 2, none⟩ (.slice A7 n7 c7)) = W3 at hs hb3 hr9 ⊢
  have d0 : W3.cell? ⟨w.heap.size, 0, none⟩ = some (.bool T.never) := hs.cell 0
  have d1 : W3.cell? ⟨w.heap.size, 1, none⟩ = some (.int .u8 T.c) := hs.cell 1
  have d2 : W3.cell? ⟨w.heap.size, 2, none⟩ = some (.slice A7 n7 c7) := hs.cell 2
  exact bodyPost_ret (v := .tuple #[.agg #[.bool T.never, .int .u8 T.c, .slice A7 n7 c7], .int .i64 0]) (by simp [results, Try.results58, go_sem, d0, d1, d2]) rfl ⟨A7, n7, c7, rfl, hr9, hb3, HF7.out⟩

/-- uses, each scaled -/
def scaleU (c v : Int) (l : List UseD) : List UseD := eachU (fun ts => scaleT c v (ts.headD ⟨true, 0, []⟩)) [l]

set_option maxHeartbeats 1000000 in
theorem scaleU_is (c v : Int) (A : Option Addr) (n cp : Nat) (l : List UseD) (w : World) (hr : UsesV w w.heap.size A n cp l) (h1 : isB c v = false) :
    Calls Try.prog 20 #[.agg #[.int .i64 v, .int .u8 c], .slice A n cp] w (RetUE [] 2 w) := by
  have hbx := below_box (w := w) (Obj.cells #[.int .i64 v, .int .u8 c] 46)
  have hz := blk_new w #[.int .i64 v, .int .u8 c] 46
  have hr0 := (hr.below hbx).more hbx.size
  have hq := is_any c v (w.alloc (Obj.cells #[.int .i64 v, .int .u8 c] 46))
  have hlen := hr.len
  have Hq := Lib.hid hq
  have Hbx := Lib.hid hbx
  have Hz := Lib.hid hz
  have Hr := Lib.hid hr0
  have m0 : (w.alloc (Obj.cells #[.int .i64 v, .int .u8 c] 46)).cell? ⟨w.heap.size, 0, none⟩ = some (.int .i64 v) := hz.cell 0
  have m1 : (w.alloc (Obj.cells #[.int .i64 v, .int .u8 c] 46)).cell? ⟨w.heap.size, 1, none⟩ = some (.int .u8 c) := hz.cell 1
  clear hr hbx hz hq hr0
  go_enter Try.func20, Try.ntmps20
  go_wp2_with fail
  refine Hq.out.mono ?_; rintro e w1 ⟨rfl, hb1⟩
  have hbel := Hbx.out.trans (hb1.mono Hbx.out.size)
  rw [isE_no h1]
  go_wp2_with fail
  exact bodyPost_ret (v := .tuple #[.slice none 0 0, .int .i64 2]) (by simp [results, Try.results20, go_sem]) rfl ⟨none, 0, 0, rfl, UsesV.nil, hbel⟩
set_option maxHeartbeats 1000000 in
theorem scaleU_no (c v : Int) (A : Option Addr) (n cp : Nat) (l : List UseD) (w : World) (hr : UsesV w w.heap.size A n cp l) (h1 : isB c v = true) (h2 : mayU l = false) :
    Calls Try.prog 20 #[.agg #[.int .i64 v, .int .u8 c], .slice A n cp] w (RetUE [] 2 w) := by
  have hbx := below_box (w := w) (Obj.cells #[.int .i64 v, .int .u8 c] 46)
  have hz := blk_new w #[.int .i64 v, .int .u8 c] 46
  have hr0 := (hr.below hbx).more hbx.size
  have hq := is_any c v (w.alloc (Obj.cells #[.int .i64 v, .int .u8 c] 46))
  have hlen := hr.len
  have Hq := Lib.hid hq
  have Hbx := Lib.hid hbx
  have Hz := Lib.hid hz
  have Hr := Lib.hid hr0
  have m0 : (w.alloc (Obj.cells #[.int .i64 v, .int .u8 c] 46)).cell? ⟨w.heap.size, 0, none⟩ = some (.int .i64 v) := hz.cell 0
  have m1 : (w.alloc (Obj.cells #[.int .i64 v, .int .u8 c] 46)).cell? ⟨w.heap.size, 1, none⟩ = some (.int .u8 c) := hz.cell 1
  clear hr hbx hz hq hr0
  go_enter Try.func20, Try.ntmps20
  go_wp2_with fail
  refine Hq.out.mono ?_; rintro e w1 ⟨rfl, hb1⟩
  have hbel := Hbx.out.trans (hb1.mono Hbx.out.size)
  rw [isE_yes h1]
  have hz1 := Hz.out.below hb1 Hz.out.lt
  have hr1 := (Hr.out.below hb1).more hb1.size
  have hb2 := below_box (w := w1) (Obj.cells #[.slice A n cp] 25)
  have hz2 := hz1.below hb2 hz1.lt
  have hls : LsV (w1.alloc (Obj.cells #[.slice A n cp] 25)) (w1.alloc (Obj.cells #[.slice A n cp] 25)).heap.size (some ⟨w1.heap.size, 0, none⟩) 1 1 [l] := by
    refine ⟨rfl, Nat.le_refl _, by unfold maxLen; omega, fun _ => ⟨w1.heap.size, 0, rfl, by simp, fun i hi => ?_⟩⟩
    have hi0 : i = 0 := by simpa using hi
    subst hi0
    exact ⟨A, n, cp, (blk_new w1 #[.slice A n cp] 25).cell 0, (hr1.below hb2).more hb2.size⟩
  have hbel2 := hbel.trans (hb2.mono hbel.size)
  generalize hW2 : (w1.alloc (Obj.cells #[.slice A n cp] 25)) = w2 at hb2 hz2 hls hbel2
  have HW2 := Lib.hid hW2
  have hc := each_no (some ⟨w1.heap.size, 0, none⟩) 1 1 (.func (.func 58) #[] #[.pointer (some ⟨w.heap.size, 0, none⟩)]) [l] w2 hls (by simp [h2])
  have Hc := Lib.hid hc
  have Hbel2 := Lib.hid hbel2
  clear hc hls hbel2 hz2 hb2 hW2 hr1 hz1 hbel h1 h2 hb1
  go_wp2_with fail
  rw [HW2.out]
  refine Hc.out.mono ?_; rintro e w3 ⟨A1, n1, c1, rfl, hu, hb3⟩
  have hbel3 := Hbel2.out.trans (hb3.mono Hbel2.out.size)
  go_wp2_with fail
  exact bodyPost_ret (v := .tuple #[.slice A1 n1 c1, .int .i64 2]) (by simp [results, Try.results20, go_sem]) rfl ⟨A1, n1, c1, rfl, hu, hbel3⟩
theorem mayU_rises {l : List UseD} (h : mayU l = true) : Rises (l.map (·.v)) ∧ l.length ≤ 1048576 := by
  have hri := mayU_rise h
  have h1 : Rises (l.map (·.v)) := by
    rw [Rises, List.pairwise_iff_getElem]
    intro i j hi hj hij
    rw [List.getElem_map, List.getElem_map]
    exact hri.up i j hij (by simpa using hj)
  refine ⟨h1, ?_⟩
  have := rises_len h1 (fun v hv => by obtain ⟨x, hx, rfl⟩ := List.mem_map.1 hv; exact hri.rng x hx)
  rwa [List.length_map] at this
set_option maxHeartbeats 1000000 in
theorem scaleU_yes (c v : Int) (A : Option Addr) (n cp : Nat) (l : List UseD) (w : World) (hr : UsesV w w.heap.size A n cp l) (h1 : isB c v = true) (h2 : mayU l = true) :
    Calls Try.prog 20 #[.agg #[.int .i64 v, .int .u8 c], .slice A n cp] w (RetUE (scaleU c v l) 0 w) := by
  have hbx := below_box (w := w) (Obj.cells #[.int .i64 v, .int .u8 c] 46)
  have hz := blk_new w #[.int .i64 v, .int .u8 c] 46
  have hr0 := (hr.below hbx).more hbx.size
  have hq := is_any c v (w.alloc (Obj.cells #[.int .i64 v, .int .u8 c] 46))
  have hlen := hr.len
  have Hq := Lib.hid hq
  have Hbx := Lib.hid hbx
  have Hz := Lib.hid hz
  have Hr := Lib.hid hr0
  have m0 : (w.alloc (Obj.cells #[.int .i64 v, .int .u8 c] 46)).cell? ⟨w.heap.size, 0, none⟩ = some (.int .i64 v) := hz.cell 0
  have m1 : (w.alloc (Obj.cells #[.int .i64 v, .int .u8 c] 46)).cell? ⟨w.heap.size, 1, none⟩ = some (.int .u8 c) := hz.cell 1
  clear hr hbx hz hq hr0
  go_enter Try.func20, Try.ntmps20
  go_wp2_with fail
  refine Hq.out.mono ?_; rintro e w1 ⟨rfl, hb1⟩
  have hbel := Hbx.out.trans (hb1.mono Hbx.out.size)
  rw [isE_yes h1]
  have hz1 := Hz.out.below hb1 Hz.out.lt
  have hr1 := (Hr.out.below hb1).more hb1.size
  have hb2 := below_box (w := w1) (Obj.cells #[.slice A n cp] 25)
  have hz2 := hz1.below hb2 hz1.lt
  have hls : LsV (w1.alloc (Obj.cells #[.slice A n cp] 25)) (w1.alloc (Obj.cells #[.slice A n cp] 25)).heap.size (some ⟨w1.heap.size, 0, none⟩) 1 1 [l] := by
    refine ⟨rfl, Nat.le_refl _, by unfold maxLen; omega, fun _ => ⟨w1.heap.size, 0, rfl, by simp, fun i hi => ?_⟩⟩
    have hi0 : i = 0 := by simpa using hi
    subst hi0
    exact ⟨A, n, cp, (blk_new w1 #[.slice A n cp] 25).cell 0, (hr1.below hb2).more hb2.size⟩
  have hbel2 := hbel.trans (hb2.mono hbel.size)
  generalize hW2 : (w1.alloc (Obj.cells #[.slice A n cp] 25)) = w2 at hb2 hz2 hls hbel2
  have HW2 := Lib.hid hW2
  have hc := each_yes1 (some ⟨w1.heap.size, 0, none⟩) 1 1 58 (.pointer (some ⟨w.heap.size, 0, none⟩)) enters_scale1 (fun ts => scaleT c v (ts.headD ⟨true, 0, []⟩)) [l] w2 hls (by simp [h2]) (by omega) (by have := (mayU_rises h2).2; simp only [varsOf, List.flatMap_cons, List.flatMap_nil, List.append_nil, List.length_map]; omega) (fun u A m cp w' hv hb' ht => by
    have hz' := hz2.below hb' hz2.lt
    exact scale1_any c v w.heap.size A m cp (ofU l u) w' hz' ht h1 (mayU_ofU h2 u))
  have Hc := Lib.hid hc
  have Hbel2 := Lib.hid hbel2
  clear hc hls hbel2 hz2 hb2 hW2 hr1 hz1 hbel h1 h2 hb1
  go_wp2_with fail
  rw [HW2.out]
  refine Hc.out.mono ?_; rintro e w3 ⟨A1, n1, c1, rfl, hu, hb3⟩
  have hbel3 := Hbel2.out.trans (hb3.mono Hbel2.out.size)
  go_wp2_with fail
  exact bodyPost_ret (v := .tuple #[.slice A1 n1 c1, .int .i64 0]) (by simp [results, Try.results20, go_sem]) rfl ⟨A1, n1, c1, rfl, hu, hbel3⟩

end Go.Proofs.Ytimlbpjdgnapoaa

