/- IneqFits holds for every input: what must hold so that any term is below any bound is what the document says. Conditions: the variables that the row lists are laid as the program's text lays them. -/
import Derived.Test.YtbccnfgceabopaaDoorIneqW
import Derived.Test.YtbccnfgceabopaaDoorRefX
import Derived.Test.YtbccnfgceabopaaDoorRowD
namespace Go.Proofs.YtbccnfgceabopaaDoor
set_option linter.unusedVariables false
set_option linter.unusedSimpArgs false
open Go.ChangeShapes Go.WideShapes Go.ChangeAt Go.RowKit

theorem refMay_at (v : Value) (t : TermD) (x : Bool) (hx : mayB t = x) (w : World) (B : Nat) (hv : TermV w B v t) (hB : B ≤ w.heap.size) :
    Calls Tryd.prog 22 #[v] w fun e w' => e = .returned (.bool x) ∧ Below w.heap.size w w' := by
  rw [← hx]; exact refMay_t v t w B hv hB


set_option maxRecDepth 100000 in
set_option maxHeartbeats 2000000 in
theorem walkA_ineqFits (A : Option Addr) (n cp : Nat) (t : TermD) (g mv mc : Int) (w : World) (ht : Tab w) (hr : RdI .i64 w w.heap.size A n cp t.vars) :
    Calls Tryd.prog 5 #[.agg #[.bool t.never, .int .u8 t.c, .slice A n cp], .int .u8 g, .agg #[.int .i64 mv, .int .u8 mc]] w fun e w' => e = .returned (.bool true) ∧ Below w.heap.size w w' := by
  have Ht := Lib.hid ht
  have hl := hr.len
  have Hl := Lib.hid hl
  clear ht
  by_cases hbig : 5000 < n
  · have hbg : decide ((5000 : Int) < n) = true := by simp; omega
    clear hl
    obtain ⟨hb0, hs0, ht0, hm0⟩ := F0_facts t A n cp mv mc w
    have hr0 := (hr.more (Nat.le_refl _)).below hb0
    have tx : ∀ w', Below (w.heap.size + 2) (F0 t A n cp mv mc w) w' → w'.cell? ⟨w.heap.size, 0, none⟩ = some (.bool t.never) ∧ w'.cell? ⟨w.heap.size, 1, none⟩ = some (.int .u8 t.c) ∧ w'.cell? ⟨w.heap.size, 2, none⟩ = some (.slice A n cp) ∧ w'.cell? ⟨w.heap.size + 1, 0, none⟩ = some (.int .i64 mv) ∧ w'.cell? ⟨w.heap.size + 1, 1, none⟩ = some (.int .u8 mc) := fun w' hb => ⟨(ht0.below hb (by omega)).cell 0, (ht0.below hb (by omega)).cell 1, (ht0.below hb (by omega)).cell 2, (hm0.below hb (by omega)).cell 0, (hm0.below hb (by omega)).cell 1⟩
    have Tx := Lib.hid tx
    obtain ⟨x0, x1, x2, y0, y1⟩ := tx _ (Below.refl _ _)
    clear tx ht0 hm0
    go_enter Tryd.func5, Tryd.ntmps5
    go_wp2_with fail
    refine (worksQ_any (F0 t A n cp mv mc w) (Ht.out.below hb0)).mono ?_; rintro e w8 ⟨rfl, hb8⟩
    go_wp2_with fail
    go_ret
    exact ⟨rfl, hb0.trans (hb8.mono hb0.size)⟩
  · have hbg : decide ((5000 : Int) < n) = false := by simp; omega
    cases hm : mayB t
    · have HM := Lib.hid hm
      have HNO : Hid (fitsB t g mv mc = false) := by show _ = _; simp [fitsB, hm]
      clear hm hl hbig
      obtain ⟨hb0, hs0, ht0, hm0⟩ := F0_facts t A n cp mv mc w
      have hr0 := (hr.more (Nat.le_refl _)).below hb0
      have tx : ∀ w', Below (w.heap.size + 2) (F0 t A n cp mv mc w) w' → w'.cell? ⟨w.heap.size, 0, none⟩ = some (.bool t.never) ∧ w'.cell? ⟨w.heap.size, 1, none⟩ = some (.int .u8 t.c) ∧ w'.cell? ⟨w.heap.size, 2, none⟩ = some (.slice A n cp) ∧ w'.cell? ⟨w.heap.size + 1, 0, none⟩ = some (.int .i64 mv) ∧ w'.cell? ⟨w.heap.size + 1, 1, none⟩ = some (.int .u8 mc) := fun w' hb => ⟨(ht0.below hb (by omega)).cell 0, (ht0.below hb (by omega)).cell 1, (ht0.below hb (by omega)).cell 2, (hm0.below hb (by omega)).cell 0, (hm0.below hb (by omega)).cell 1⟩
      have Tx := Lib.hid tx
      obtain ⟨x0, x1, x2, y0, y1⟩ := tx _ (Below.refl _ _)
      clear tx ht0 hm0
      go_enter Tryd.func5, Tryd.ntmps5
      go_wp2_with fail
      refine (fits_no (.agg #[.bool t.never, .int .u8 t.c, .slice A n cp]) t g mv mc (F0 t A n cp mv mc w) w.heap.size ⟨A, n, cp, rfl, hr0⟩ (by omega) HNO.out).mono ?_
      rintro e w1 ⟨A1, n1, c1, rfl, hx1, hb1⟩
      obtain rfl : 0 = n1 := hx1.len
      clear x0 x1 x2 y0 y1
      generalize hF : F0 t A n cp mv mc w = w0 at hb0 hs0 hr0 Tx hb1 ⊢
      clear hF
      have hk1 := hb1.mono (show w.heap.size + 2 ≤ w0.heap.size by omega)
      have hw1 := hb0.trans (hb1.mono (by omega))
      have hr1 := hr0.below (hk1.mono (by omega))
      have hz1 : w.heap.size + 2 ≤ w1.heap.size := by have := hb1.size; omega
      obtain ⟨x0, x1, x2, y0, y1⟩ := Tx.out _ hk1
      clear hb1
      go_wp2_with fail
      refine (refMay_at (.agg #[.bool t.never, .int .u8 t.c, .slice A n cp]) t _ HM.out w1 w.heap.size ⟨A, n, cp, rfl, hr1⟩ (by omega)).mono ?_; rintro e w2 ⟨rfl, hb2⟩
      have hk2 := hk1.trans (hb2.mono hz1)
      have hw2 := hw1.trans (hb2.mono hw1.size)
      clear x0 x1 x2 y0 y1 hx1
      obtain ⟨x0, x1, x2, y0, y1⟩ := Tx.out _ hk2
      go_wp2_with fail
      refine (worksQ_any w2 (Ht.out.below hw2)).mono ?_; rintro e w8 ⟨rfl, hb8⟩
      go_wp2_with fail
      go_ret
      exact ⟨rfl, hw2.trans (hb8.mono hw2.size)⟩
    · have HM := Lib.hid hm
      by_cases hg1 : g < 1
      · have HNO : Hid (fitsB t g mv mc = false) := by show _ = _; simp [fitsB, show ¬ 1 ≤ g by omega]
        clear hm hl hbig
        obtain ⟨hb0, hs0, ht0, hm0⟩ := F0_facts t A n cp mv mc w
        have hr0 := (hr.more (Nat.le_refl _)).below hb0
        have tx : ∀ w', Below (w.heap.size + 2) (F0 t A n cp mv mc w) w' → w'.cell? ⟨w.heap.size, 0, none⟩ = some (.bool t.never) ∧ w'.cell? ⟨w.heap.size, 1, none⟩ = some (.int .u8 t.c) ∧ w'.cell? ⟨w.heap.size, 2, none⟩ = some (.slice A n cp) ∧ w'.cell? ⟨w.heap.size + 1, 0, none⟩ = some (.int .i64 mv) ∧ w'.cell? ⟨w.heap.size + 1, 1, none⟩ = some (.int .u8 mc) := fun w' hb => ⟨(ht0.below hb (by omega)).cell 0, (ht0.below hb (by omega)).cell 1, (ht0.below hb (by omega)).cell 2, (hm0.below hb (by omega)).cell 0, (hm0.below hb (by omega)).cell 1⟩
        have Tx := Lib.hid tx
        obtain ⟨x0, x1, x2, y0, y1⟩ := tx _ (Below.refl _ _)
        clear tx ht0 hm0
        go_enter Tryd.func5, Tryd.ntmps5
        go_wp2_with fail
        refine (fits_no (.agg #[.bool t.never, .int .u8 t.c, .slice A n cp]) t g mv mc (F0 t A n cp mv mc w) w.heap.size ⟨A, n, cp, rfl, hr0⟩ (by omega) HNO.out).mono ?_
        rintro e w1 ⟨A1, n1, c1, rfl, hx1, hb1⟩
        obtain rfl : 0 = n1 := hx1.len
        clear x0 x1 x2 y0 y1
        generalize hF : F0 t A n cp mv mc w = w0 at hb0 hs0 hr0 Tx hb1 ⊢
        clear hF
        have hk1 := hb1.mono (show w.heap.size + 2 ≤ w0.heap.size by omega)
        have hw1 := hb0.trans (hb1.mono (by omega))
        have hr1 := hr0.below (hk1.mono (by omega))
        have hz1 : w.heap.size + 2 ≤ w1.heap.size := by have := hb1.size; omega
        obtain ⟨x0, x1, x2, y0, y1⟩ := Tx.out _ hk1
        clear hb1
        go_wp2_with fail
        refine (refMay_at (.agg #[.bool t.never, .int .u8 t.c, .slice A n cp]) t _ HM.out w1 w.heap.size ⟨A, n, cp, rfl, hr1⟩ (by omega)).mono ?_; rintro e w2 ⟨rfl, hb2⟩
        have hk2 := hk1.trans (hb2.mono hz1)
        have hw2 := hw1.trans (hb2.mono hw1.size)
        clear x0 x1 x2 y0 y1 hx1
        obtain ⟨x0, x1, x2, y0, y1⟩ := Tx.out _ hk2
        go_wp2_with fail
        refine (worksQ_any w2 (Ht.out.below hw2)).mono ?_; rintro e w8 ⟨rfl, hb8⟩
        go_wp2_with fail
        go_ret
        exact ⟨rfl, hw2.trans (hb8.mono hw2.size)⟩
      · by_cases hg2 : 3 < g
        · have HNO : Hid (fitsB t g mv mc = false) := by show _ = _; simp [fitsB, show ¬ g ≤ 3 by omega]
          clear hm hl hbig
          obtain ⟨hb0, hs0, ht0, hm0⟩ := F0_facts t A n cp mv mc w
          have hr0 := (hr.more (Nat.le_refl _)).below hb0
          have tx : ∀ w', Below (w.heap.size + 2) (F0 t A n cp mv mc w) w' → w'.cell? ⟨w.heap.size, 0, none⟩ = some (.bool t.never) ∧ w'.cell? ⟨w.heap.size, 1, none⟩ = some (.int .u8 t.c) ∧ w'.cell? ⟨w.heap.size, 2, none⟩ = some (.slice A n cp) ∧ w'.cell? ⟨w.heap.size + 1, 0, none⟩ = some (.int .i64 mv) ∧ w'.cell? ⟨w.heap.size + 1, 1, none⟩ = some (.int .u8 mc) := fun w' hb => ⟨(ht0.below hb (by omega)).cell 0, (ht0.below hb (by omega)).cell 1, (ht0.below hb (by omega)).cell 2, (hm0.below hb (by omega)).cell 0, (hm0.below hb (by omega)).cell 1⟩
          have Tx := Lib.hid tx
          obtain ⟨x0, x1, x2, y0, y1⟩ := tx _ (Below.refl _ _)
          clear tx ht0 hm0
          go_enter Tryd.func5, Tryd.ntmps5
          go_wp2_with fail
          refine (fits_no (.agg #[.bool t.never, .int .u8 t.c, .slice A n cp]) t g mv mc (F0 t A n cp mv mc w) w.heap.size ⟨A, n, cp, rfl, hr0⟩ (by omega) HNO.out).mono ?_
          rintro e w1 ⟨A1, n1, c1, rfl, hx1, hb1⟩
          obtain rfl : 0 = n1 := hx1.len
          clear x0 x1 x2 y0 y1
          generalize hF : F0 t A n cp mv mc w = w0 at hb0 hs0 hr0 Tx hb1 ⊢
          clear hF
          have hk1 := hb1.mono (show w.heap.size + 2 ≤ w0.heap.size by omega)
          have hw1 := hb0.trans (hb1.mono (by omega))
          have hr1 := hr0.below (hk1.mono (by omega))
          have hz1 : w.heap.size + 2 ≤ w1.heap.size := by have := hb1.size; omega
          obtain ⟨x0, x1, x2, y0, y1⟩ := Tx.out _ hk1
          clear hb1
          go_wp2_with fail
          refine (refMay_at (.agg #[.bool t.never, .int .u8 t.c, .slice A n cp]) t _ HM.out w1 w.heap.size ⟨A, n, cp, rfl, hr1⟩ (by omega)).mono ?_; rintro e w2 ⟨rfl, hb2⟩
          have hk2 := hk1.trans (hb2.mono hz1)
          have hw2 := hw1.trans (hb2.mono hw1.size)
          clear x0 x1 x2 y0 y1 hx1
          obtain ⟨x0, x1, x2, y0, y1⟩ := Tx.out _ hk2
          go_wp2_with fail
          refine (worksQ_any w2 (Ht.out.below hw2)).mono ?_; rintro e w8 ⟨rfl, hb8⟩
          go_wp2_with fail
          go_ret
          exact ⟨rfl, hw2.trans (hb8.mono hw2.size)⟩
        · cases hi : isB mc mv
          · have HI := Lib.hid hi
            have HNO : Hid (fitsB t g mv mc = false) := by show _ = _; simp [fitsB, hi]
            clear hm hl hbig hi
            obtain ⟨hb0, hs0, ht0, hm0⟩ := F0_facts t A n cp mv mc w
            have hr0 := (hr.more (Nat.le_refl _)).below hb0
            have tx : ∀ w', Below (w.heap.size + 2) (F0 t A n cp mv mc w) w' → w'.cell? ⟨w.heap.size, 0, none⟩ = some (.bool t.never) ∧ w'.cell? ⟨w.heap.size, 1, none⟩ = some (.int .u8 t.c) ∧ w'.cell? ⟨w.heap.size, 2, none⟩ = some (.slice A n cp) ∧ w'.cell? ⟨w.heap.size + 1, 0, none⟩ = some (.int .i64 mv) ∧ w'.cell? ⟨w.heap.size + 1, 1, none⟩ = some (.int .u8 mc) := fun w' hb => ⟨(ht0.below hb (by omega)).cell 0, (ht0.below hb (by omega)).cell 1, (ht0.below hb (by omega)).cell 2, (hm0.below hb (by omega)).cell 0, (hm0.below hb (by omega)).cell 1⟩
            have Tx := Lib.hid tx
            obtain ⟨x0, x1, x2, y0, y1⟩ := tx _ (Below.refl _ _)
            clear tx ht0 hm0
            go_enter Tryd.func5, Tryd.ntmps5
            go_wp2_with fail
            refine (fits_no (.agg #[.bool t.never, .int .u8 t.c, .slice A n cp]) t g mv mc (F0 t A n cp mv mc w) w.heap.size ⟨A, n, cp, rfl, hr0⟩ (by omega) HNO.out).mono ?_
            rintro e w1 ⟨A1, n1, c1, rfl, hx1, hb1⟩
            obtain rfl : 0 = n1 := hx1.len
            clear x0 x1 x2 y0 y1
            generalize hF : F0 t A n cp mv mc w = w0 at hb0 hs0 hr0 Tx hb1 ⊢
            clear hF
            have hk1 := hb1.mono (show w.heap.size + 2 ≤ w0.heap.size by omega)
            have hw1 := hb0.trans (hb1.mono (by omega))
            have hr1 := hr0.below (hk1.mono (by omega))
            have hz1 : w.heap.size + 2 ≤ w1.heap.size := by have := hb1.size; omega
            obtain ⟨x0, x1, x2, y0, y1⟩ := Tx.out _ hk1
            clear hb1
            go_wp2_with fail
            refine (refMay_at (.agg #[.bool t.never, .int .u8 t.c, .slice A n cp]) t _ HM.out w1 w.heap.size ⟨A, n, cp, rfl, hr1⟩ (by omega)).mono ?_; rintro e w2 ⟨rfl, hb2⟩
            have hk2 := hk1.trans (hb2.mono hz1)
            have hw2 := hw1.trans (hb2.mono hw1.size)
            clear x0 x1 x2 y0 y1 hx1
            obtain ⟨x0, x1, x2, y0, y1⟩ := Tx.out _ hk2
            go_wp2_with fail
            refine (refIs_at mc mv _ HI.out w2).mono ?_; rintro e w3 ⟨rfl, hb3⟩
            have hw3 := hw2.trans (hb3.mono hw2.size)
            go_wp2_with fail
            refine (worksQ_any w3 (Ht.out.below hw3)).mono ?_; rintro e w8 ⟨rfl, hb8⟩
            go_wp2_with fail
            go_ret
            exact ⟨rfl, hw3.trans (hb8.mono hw3.size)⟩
          · have HI := Lib.hid hi
            have HY : Hid (fitsB t g mv mc = true) := by show _ = _; simp [fitsB, hm, hi]; omega
            have Hn : Hid (t.vars.length ≤ 1000000000) := by show _ ≤ _; omega
            clear hm hl hi
            obtain ⟨hb0, hs0, ht0, hm0⟩ := F0_facts t A n cp mv mc w
            have hr0 := (hr.more (Nat.le_refl _)).below hb0
            have tx : ∀ w', Below (w.heap.size + 2) (F0 t A n cp mv mc w) w' → w'.cell? ⟨w.heap.size, 0, none⟩ = some (.bool t.never) ∧ w'.cell? ⟨w.heap.size, 1, none⟩ = some (.int .u8 t.c) ∧ w'.cell? ⟨w.heap.size, 2, none⟩ = some (.slice A n cp) ∧ w'.cell? ⟨w.heap.size + 1, 0, none⟩ = some (.int .i64 mv) ∧ w'.cell? ⟨w.heap.size + 1, 1, none⟩ = some (.int .u8 mc) := fun w' hb => ⟨(ht0.below hb (by omega)).cell 0, (ht0.below hb (by omega)).cell 1, (ht0.below hb (by omega)).cell 2, (hm0.below hb (by omega)).cell 0, (hm0.below hb (by omega)).cell 1⟩
            have Tx := Lib.hid tx
            obtain ⟨x0, x1, x2, y0, y1⟩ := tx _ (Below.refl _ _)
            clear tx ht0 hm0
            go_enter Tryd.func5, Tryd.ntmps5
            go_wp2_with fail
            refine (fits_yes (.agg #[.bool t.never, .int .u8 t.c, .slice A n cp]) t g mv mc (F0 t A n cp mv mc w) w.heap.size ⟨A, n, cp, rfl, hr0⟩ (by omega) HY.out Hn.out).mono ?_
            rintro e w1 ⟨A1, n1, c1, rfl, hx1, hb1⟩
            clear x0 x1 x2 y0 y1
            generalize hF : F0 t A n cp mv mc w = w0 at hb0 hs0 hr0 Tx hb1 ⊢
            clear hF
            have hk1 := hb1.mono (show w.heap.size + 2 ≤ w0.heap.size by omega)
            have hw1 := hb0.trans (hb1.mono (by omega))
            have hr1 := hr0.below (hk1.mono (by omega))
            have hz1 : w.heap.size + 2 ≤ w1.heap.size := by have := hb1.size; omega
            obtain ⟨x0, x1, x2, y0, y1⟩ := Tx.out _ hk1
            clear hb1
            have Hx1 := Lib.hid hx1
            clear hx1
            go_wp2_with fail
            refine (refMay_at (.agg #[.bool t.never, .int .u8 t.c, .slice A n cp]) t _ HM.out w1 w.heap.size ⟨A, n, cp, rfl, hr1⟩ (by omega)).mono ?_; rintro e w2 ⟨rfl, hb2⟩
            have hk2 := hk1.trans (hb2.mono hz1)
            have hw2 := hw1.trans (hb2.mono hw1.size)
            have hx2 := Hx1.out.below hb2
            have hz2 := hb2.size
            clear x0 x1 x2 y0 y1 hb2 Hx1
            obtain ⟨x0, x1, x2, y0, y1⟩ := Tx.out _ hk2
            have Hx2 := Lib.hid hx2
            clear hx2
            go_wp2_with fail
            refine (refIs_at mc mv _ HI.out w2).mono ?_; rintro e w3 ⟨rfl, hb3⟩
            have hk3 := hk2.trans (hb3.mono (by omega))
            have hw3 := hw2.trans (hb3.mono hw2.size)
            have hz3 := hb3.size
            have hr3 := hr0.below (hk3.mono (by omega))
            have Hx3 := Lib.hid (Hx2.out.below (hb3.mono (by omega)))
            clear x0 x1 x2 y0 y1 hb3 Hx2
            obtain ⟨x0, x1, x2, y0, y1⟩ := Tx.out _ hk3
            go_wp2_with fail
            refine (refFits_any (.agg #[.bool t.never, .int .u8 t.c, .slice A n cp]) t g mv mc w3 w.heap.size ⟨A, n, cp, rfl, hr3⟩ (by omega) HY.out Hn.out).mono ?_
            rintro e w4 ⟨A4, n4, c4, rfl, hx4, hb4⟩
            have hw4 := hw3.trans (hb4.mono hw3.size)
            have hx3' := Hx3.out.below (hb4.mono (by omega))
            have Hq := Lib.hid (eqQ_true A1 n1 c1 A4 n4 c4 _ w4 _ _ hx3' hx4)
            clear hx4 hx3' hb4 Hx3 x0 x1 x2 y0 y1
            go_wp2_with fail
            refine Hq.out.mono ?_; rintro e w5 ⟨rfl, hb5⟩
            have hw5 := hw4.trans (hb5.mono hw4.size)
            go_wp2_with fail
            refine (worksQ_any w5 (Ht.out.below hw5)).mono ?_; rintro e w8 ⟨rfl, hb8⟩
            go_wp2_with fail
            go_ret
            exact ⟨rfl, hw5.trans (hb8.mono hw5.size)⟩

theorem walk_ineqFits (w : World) (ht : Tab w) (v1 : Value) (h1 : TermIn w v1) (g : Int) (hg : 0 ≤ g ∧ g ≤ 255) (v3 : Value) (h3 : MuIn v3) :
    Calls Tryd.prog 5 #[v1, .int .u8 g, v3] w fun e w' => e = .returned (.bool true) ∧ Below w.heap.size w w' := by
  obtain ⟨t, ⟨A, n, c, rfl, hr⟩, _⟩ := h1
  obtain ⟨V, C, rfl, _⟩ := h3
  exact walkA_ineqFits A n c t g V C w ht hr

/-! ### the row's step -/
namespace ineqFits
set_option maxRecDepth 100000 in
theorem lifted (os : Os) (started : os.Started) (H : Type) (enc : TypeId × Value → H) :
    ReturnsInHanded {} Tryd.checked os 5 .any (fun w args => (Rows.ineqFitsSpec.pre enc Tryd.prog Tryd.f5 [] false w args ∧ laidMetH Tryd.prog laid3 w) ∧ sizedMet enc Tryd.prog Tryd.f5 (OpenSpec.ofChange Rows.ineqFitsSpec) false w args) (Rows.ineqFitsSpec.post enc Tryd.prog Tryd.f5 false true false false) := by
  refine returnsInHanded_of_change_and (C := Tryd.checked) (X := fun w _ => laidMetH Tryd.prog laid3 w) (fun _ _ _ hh h => h.of_heap hh) own started (by kernel_rfl) Tryd.func5
    (ChangeSpec.witness_shaped (enc := enc) (C := Tryd.checked) (os := os) (X := fun w _ => laidMetH Tryd.prog laid3 w) false (World.doorLaid Tryd.prog 400 os) #[.agg #[.bool false, .int .u8 0, .slice none 0 0], .int .u8 0, .agg #[.int .i64 0, .int .u8 0]] 8 rfl (World.shaped_of_RefB (by kernel_rfl) (by kernel_rfl)) (by kernel_rfl) (by kernel_rfl) (by kernel_rfl) (door_met os _)) ?_
  intro W base args ds gs before hval0 hW hcnd hsz0 hL _
  have hsz : (DataW.weightsEach Tryd.prog (Tryd.f5.params.toList ++ Rows.ineqFitsSpec.plain.varTypes Tryd.prog) (ds ++ gs)).all (· ≤ reachBytes) = true := hsz0
  have hval : ∀ (j : Nat) t v, Tryd.f5.params[j]? = some t → args[j]? = some v → Value.okWide Tryd.prog W .any base t v := hval0
  have hW' := hW
  obtain ⟨p, q, hA0, hV, rfl, hfz, hnd⟩ := hW
  have hA : DataW.TrodAll enc Tryd.prog W 0 (fun _ => true) true Tryd.f5.params.toList args.toList ds p := hA0
  rw [Tryd.params5] at hA hval hsz
  obtain ⟨v0, vs0, d0, ds0, p0, q0, hargs, rfl, rfl, h0, r_0⟩ := trodAll_cons hA
  obtain ⟨v1, vs1, d1, ds1, p1, q1, rfl, rfl, rfl, h1, r_1⟩ := trodAll_cons r_0
  obtain ⟨v2, vs2, d2, ds2, p2, q2, rfl, rfl, rfl, h2, r_2⟩ := trodAll_cons r_1
  obtain ⟨rfl, rfl, rfl⟩ := trodAll_nil r_2
  obtain rfl : args = #[v0, v1, v2] := by cases args; simp_all
  obtain ⟨rfl, rfl⟩ := trodVars_none hV
  have w0 := rd_term (hval 0 25 v0 rfl rfl) h0
  obtain ⟨a1, rfl, _, _, w1⟩ := open_int Tryd.underlying22 (hval 1 22 v1 rfl rfl) h1
  have b1 := bounds_u8 w1
  have w2 := rd_mu (hval 2 31 v2 rfl rfl) h2
  refine (walk_ineqFits (w := W) (tab_of_laid hL) v0 w0 a1 b1 v2 w2).mono fun e W' ⟨he, bel⟩ => ?_
  subst he
  exact ⟨_, rfl, law_post laidOut (by kernel_rfl) rfl rfl Tryd.underlying4 hW' rfl rfl rfl bel⟩
theorem over : Rows.ineqFitsRow.holds Tryd.pinned (OpenSpec.ofChange Rows.ineqFitsSpec) :=
  OpenClaim.holds_of_wide 5 Tryd.f5 rfl rfl rfl rfl rfl rfl rfl ⟨rfl, rfl, rfl, rfl, rfl⟩ rfl rfl rfl rfl rfl (by kernel_rfl) Tryd.func5 (by kernel_rfl)
    (of_decide_eq_true (by kernel_rfl)) (by unfold Func.isWrapper; first | (rw [if_pos (by decide +kernel)]; kernel_rfl) | (rw [if_neg (by decide +kernel)]; exact ⟨rfl, rfl⟩))
    (fun os started H enc _ => lifted os started H enc)
theorem card : Rows.IneqFitsCardSaid :=
  Claim7.holds_tied_plain_at .later [] [.data, .data, .data] true Rows.ineqFitsCard.stood.harness false
    over (fun _ h => by cases h) (by kernel_rfl) (fun _ h => by cases h) ineqFits_row_tie rfl ⟨rfl, rfl⟩ (by kernel_rfl) rfl
    (fun f fn hf hfn => by
      obtain rfl : f = 5 := Option.some.inj ((show Tryd.prog.funcNamed "usufruct/usufructlaw03.IneqFits" = some 5 by kernel_rfl).symm.trans hf) |>.symm
      obtain rfl : fn = Tryd.f5 := (Option.some.inj (Tryd.func5.symm.trans hfn)).symm
      exact ⟨by kernel_rfl, fun j t ht => by
        rw [Tryd.params5] at ht
        have hm : t ∈ [25, 22, 31] := by simpa using Array.mem_of_getElem? ht
        have hall : ([25, 22, 31].all fun u => !Tryd.prog.wantsStandIn u) = true := by kernel_rfl
        exact (show Tryd.prog.wantsStandIn t = false by simpa using List.all_eq_true.1 hall t hm)⟩)
    (by kernel_rfl)
/-- the statement -/
theorem proved : Rows.IneqFitsCardSaid := card
#print axioms proved
end ineqFits
end Go.Proofs.YtbccnfgceabopaaDoor
