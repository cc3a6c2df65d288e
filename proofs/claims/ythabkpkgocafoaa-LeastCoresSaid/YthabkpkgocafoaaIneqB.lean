/- Contracts of ineq's looker: at, holds; of usufructref03.One. -/
import Derived.Test.YthabkpkgocafoaaIneqA
import Derived.Deep.RegionWith
namespace Go.Proofs.Ythabkpkgocafoaa
set_option linter.unusedVariables false
set_option linter.unusedSimpArgs false
open Go.RowKit


/-- the world behind a look -/
def lookW (w : World) (g : Nat) (asg : List Int) (v : Int) : World := if okV asg v then w else w.setCell ⟨g, 1, none⟩ (.bool true)
section
variable {w : World} {g s : Nat} {asg : List Int} {v : Int} {t : TypeId} {cs : Array Value} {bad : Bool}
theorem lookW_size : (lookW w g asg v).heap.size = w.heap.size := by unfold lookW; split <;> simp
theorem lookW_below : Below g w (lookW w g asg v) := by
  unfold lookW; split
  · exact Below.refl _ _
  · exact (Below.refl g w).setCell (p := ⟨g, 1, none⟩) (Nat.le_refl _) _
theorem Blk.look (h : Blk w s t cs) (hs : g ≠ s) : Blk (lookW w g asg v) s t cs := by
  unfold lookW; split
  · exact h
  · exact h.other hs 1 _
theorem Looks.store (h : Looks w g asg bad) (hs : g < s) (i : Nat) (u : Value) : Looks (w.setCell ⟨s, i, none⟩ u) g asg bad := by
  obtain ⟨A, n, c, h1, h2⟩ := h
  exact ⟨A, n, c, h1.other (by omega) i u, h2.below ((Below.refl g w).setCell (p := ⟨s, i, none⟩) (by simp; omega) _)⟩
theorem Looks.below {w' : World} {B : Nat} (h : Looks w g asg bad) (hb : Below B w w') (hg : g < B) : Looks w' g asg bad := by
  obtain ⟨A, n, c, h1, h2⟩ := h
  exact ⟨A, n, c, h1.below hb hg, h2.below (hb.mono (by omega))⟩
end

theorem lookerAt_any (v : Int) (g : Nat) (asg : List Int) (bad : Bool) (w : World) (h : Looks w g asg bad) (hv : 0 ≤ v) :
    Calls Try.prog 69 #[.pointer (some ⟨g, 0, none⟩), .int .i64 v] w fun e w' => e = .returned (.int .u8 (atK asg v)) ∧ Looks w' g asg (bad || !okV asg v) ∧ w' = lookW w g asg v := by
  obtain ⟨m, rfl⟩ : ∃ m : Nat, v = (m : Int) := ⟨v.toNat, (Int.toNat_of_nonneg hv).symm⟩
  clear hv
  obtain ⟨A, n, c, hk, ha⟩ := h
  have hla := ha.len
  have hn63 : n ≤ 9223372036854775807 := Nat.le_trans ha.2.1 ha.2.2
  have x0 : w.cell? ⟨g, 0, none⟩ = some (.slice A n c) := hk.cell 0
  have f1 : w.frozen? ⟨g, 1, none⟩ = false := hk.frozen 1
  have x1 : w.cell? ⟨g, 1, none⟩ = some (.bool bad) := hk.cell 1
  have hgood : okV asg m = true → Hid (Looks w g asg (bad || !okV asg m)) := fun h => Lib.hid (by rw [h]; simpa using ⟨A, n, c, hk, ha⟩)
  have hbelow : Below g w (w.setCell ⟨g, 1, none⟩ (.bool true)) := (Below.refl g w).setCell (p := ⟨g, 1, none⟩) (Nat.le_refl _) _
  have hbad : okV asg m = false → Hid (Looks (w.setCell ⟨g, 1, none⟩ (.bool true)) g asg (bad || !okV asg m)) := fun h => Lib.hid (by rw [h]; simpa using ⟨A, n, c, hk.set_ 1 _, ha.below hbelow⟩)
  have hB := Lib.hid hbelow
  clear hbelow
  by_cases hlt : m < n
  · obtain ⟨b, off, rfl, hb, hcell⟩ := ha.at_ (by omega)
    have hm' : m < asg.length := by rw [hla]; exact hlt
    have hc := hcell m hm'
    have hav : atV asg m = asg[m] := by simp [atV, List.getD, hm']
    have hml : ((m : Int) < asg.length) := by omega
    generalize asg[m] = y at hc hav
    clear hcell ha hla hk
    by_cases h1 : 1 ≤ y
    · by_cases h2 : y ≤ 3
      · have ho : okV asg m = true := by simp [okV, oneB, hav, hml, h1, h2]
        have H : Hid (y = atK asg m) := by show _ = _; simp [atK, ho, hav]
        have hL := hgood ho
        have hW : Hid (w = lookW w g asg m) := Lib.hid (by simp [lookW, ho])
        clear hav hml hm' ho hgood hbad
        go_enter Try.func69, Try.ntmps69
        go_wp2_with fail
        go_ret
        exact ⟨by rw [← H.out]; rfl, hL.out, hW.out⟩
      · have ho : okV asg m = false := by simp [okV, oneB, hav, hml, h1, h2]
        have H : Hid (1 = atK asg m) := by show _ = _; simp [atK, ho]
        have hL := hbad ho
        have hW : Hid (w.setCell ⟨g, 1, none⟩ (.bool true) = lookW w g asg m) := Lib.hid (by simp [lookW, ho])
        clear hav hml hm' ho hgood hbad
        go_enter Try.func69, Try.ntmps69
        go_wp2_with fail
        go_ret
        exact ⟨by rw [← H.out]; rfl, hL.out, hW.out⟩
    · have ho : okV asg m = false := by simp [okV, oneB, hav, hml, h1]
      have H : Hid (1 = atK asg m) := by show _ = _; simp [atK, ho]
      have hL := hbad ho
      have hW : Hid (w.setCell ⟨g, 1, none⟩ (.bool true) = lookW w g asg m) := Lib.hid (by simp [lookW, ho])
      clear hav hml hm' ho hgood hbad
      go_enter Try.func69, Try.ntmps69
      go_wp2_with fail
      go_ret
      exact ⟨by rw [← H.out]; rfl, hL.out, hW.out⟩
  · have hml : ¬ ((m : Int) < asg.length) := by omega
    have ho : okV asg m = false := by simp [okV, hml]
    have H : Hid (1 = atK asg m) := by show _ = _; simp [atK, ho]
    have hL := hbad ho
    have hW : Hid (w.setCell ⟨g, 1, none⟩ (.bool true) = lookW w g asg m) := Lib.hid (by simp [lookW, ho])
    have hlt' : n ≤ m := by omega
    clear hml hla hlt ha hk ho hgood hbad
    go_enter Try.func69, Try.ntmps69
    go_wp2_with fail
    go_ret
    exact ⟨by rw [← H.out]; rfl, hL.out, hW.out⟩

theorem lookerAt_x (v : Int) (g : Nat) (asg : List Int) (bad : Bool) (w : World) (h : Looks w g asg bad) (hv : 0 ≤ v) (w0 : World) (sx ss : Nat) (tx ts : TypeId) (cx cs : Array Value) (hb : Below g w0 w) (hx : Blk w sx tx cx) (hs : Blk w ss ts cs) (hne : g ≠ sx) (hne' : g ≠ ss) :
    Calls Try.prog 69 #[.pointer (some ⟨g, 0, none⟩), .int .i64 v] w fun e w' => e = .returned (.int .u8 (atK asg v)) ∧ Looks w' g asg (bad || !okV asg v) ∧ Blk w' sx tx cx ∧ Blk w' ss ts cs ∧ Below g w0 w' := by
  refine (lookerAt_any v g asg bad w h hv).mono fun e w' ⟨h1, h2, h3⟩ => ⟨h1, h2, ?_, ?_, ?_⟩
  · rw [h3]; exact hx.look hne
  · rw [h3]; exact hs.look hne'
  · rw [h3]; exact hb.trans lookW_below


set_option maxHeartbeats 1000000 in
theorem lookerHolds_any (lv lc c r : Int) (g : Nat) (asg : List Int) (bad : Bool) (w : World) (h : Looks w g asg bad) (hg : g < w.heap.size) (hlv : lc = 0 → 0 ≤ lv) :
    Calls Try.prog 50 #[.pointer (some ⟨g, 0, none⟩), .agg #[.int .i64 lv, .int .u8 lc, .int .u8 c, .int .i64 r]] w fun e w' => e = .returned (.bool (holdsQ asg lv lc c r)) ∧ Looks w' g asg (bad || badQ asg lv lc r) ∧ Below g w w' := by
  have hmx := @run_max2 Try.prog
  have hz1 : (w.alloc (Obj.cells #[.int .i64 lv, .int .u8 lc, .int .u8 c, .int .i64 r] 31)).heap.size = w.heap.size + 1 := by simp
  have hb1 : Below w.heap.size w (w.alloc (Obj.cells #[.int .i64 lv, .int .u8 lc, .int .u8 c, .int .i64 r] 31)) := below_box _
  have hb2 : Below w.heap.size w ((w.alloc (Obj.cells #[.int .i64 lv, .int .u8 lc, .int .u8 c, .int .i64 r] 31)).alloc (Obj.cells #[.int .u8 lc, .int .u8 c] 57)) := hb1.trans ((below_box _).mono (by simp))
  have hx := (blk_new w #[.int .i64 lv, .int .u8 lc, .int .u8 c, .int .i64 r] 31).alloc (Obj.cells #[.int .u8 lc, .int .u8 c] 57)
  have hs := blk_new (w.alloc (Obj.cells #[.int .i64 lv, .int .u8 lc, .int .u8 c, .int .i64 r] 31)) #[.int .u8 lc, .int .u8 c] 57
  rw [hz1] at hs
  have hL := h.below hb2 hg
  have hne : g ≠ w.heap.size := by omega
  have hne' : g ≠ w.heap.size + 1 := by omega
  have hbel : Below g w ((w.alloc (Obj.cells #[.int .i64 lv, .int .u8 lc, .int .u8 c, .int .i64 r] 31)).alloc (Obj.cells #[.int .u8 lc, .int .u8 c] 57)) := hb2.mono (by omega)
  clear h hb1 hz1 hb2
  go_enter Try.func50, Try.ntmps50
  by_cases h0 : lc = 0
  · subst h0
    have hlv' := hlv rfl
    go_wp2_with fail
    generalize (w.alloc (Obj.cells #[.int .i64 lv, .int .u8 0, .int .u8 c, .int .i64 r] 31)).alloc (Obj.cells #[.int .u8 0, .int .u8 c] 57) = w2 at hx hs hL hbel ⊢
    refine (lookerAt_any lv g asg bad w2 hL hlv').mono ?_; rintro e w3 ⟨rfl, hL3, hw3⟩
    replace hx := hx.look (asg := asg) (v := lv) hne
    replace hs := hs.look (asg := asg) (v := lv) hne'
    rw [← hw3] at hx hs
    replace hbel : Below g w w3 := by rw [hw3]; exact hbel.trans lookW_below
    clear hL hw3 w2
    have hleft : leftQ asg lv 0 = atK asg lv := if_pos rfl
    have hbadl : badQ asg lv 0 r = (!okV asg lv || (decide (0 ≤ r) && !okV asg r)) := rfl
    have fs0 : w3.frozen? ⟨w.heap.size + 1, 0, none⟩ = false := hs.frozen 0
    have s0' : w3.cell? ⟨w.heap.size + 1, 0, none⟩ = some (.int .u8 0) := hs.cell 0
    have x3' : w3.cell? ⟨w.heap.size, 3, none⟩ = some (.int .i64 r) := hx.cell 3
    replace hx := hx.other (g' := w.heap.size + 1) (by omega) 0 (.int .u8 (atK asg lv))
    replace hs := hs.set_ 0 (.int .u8 (atK asg lv))
    have hL := hL3.store (s := w.heap.size + 1) (by omega) 0 (.int .u8 (atK asg lv))
    replace hbel := hbel.setCell (p := ⟨w.heap.size + 1, 0, none⟩) (by simp; omega) (.int .u8 (atK asg lv))
    clear hL3
    by_cases hr0 : 0 ≤ r
    · have H : Hid (decide (atK asg lv ≤ max c (atK asg r)) = holdsQ asg lv 0 c r) := by show _ = _; unfold holdsQ; rw [hleft, show rightQ asg c r = max c (atK asg r) from if_pos hr0]
      have HB : Hid ((bad || badQ asg lv 0 r) = ((or bad (!okV asg lv)) || !okV asg r)) := by show _ = _; rw [hbadl, decide_eq_true hr0]; (cases bad <;> cases okV asg lv <;> cases okV asg r <;> rfl)
      have x3 : (w3.setCell ⟨w.heap.size + 1, 0, none⟩ (.int .u8 (atK asg lv))).cell? ⟨w.heap.size, 3, none⟩ = some (.int .i64 r) := hx.cell 3
      have s0 : (w3.setCell ⟨w.heap.size + 1, 0, none⟩ (.int .u8 (atK asg lv))).cell? ⟨w.heap.size + 1, 0, none⟩ = some (.int .u8 (atK asg lv)) := hs.cell 0
      have s1 : (w3.setCell ⟨w.heap.size + 1, 0, none⟩ (.int .u8 (atK asg lv))).cell? ⟨w.heap.size + 1, 1, none⟩ = some (.int .u8 c) := hs.cell 1
      have fs1 : (w3.setCell ⟨w.heap.size + 1, 0, none⟩ (.int .u8 (atK asg lv))).frozen? ⟨w.heap.size + 1, 1, none⟩ = false := hs.frozen 1
      clear hleft hbadl
      go_wp2_with fail
      go_region_with ((first | (go_at_call 69; refine (lookerAt_x r g asg ((or bad (!okV asg lv))) _ (by exact hL) hr0 w w.heap.size (w.heap.size + 1) 31 57 #[.int .i64 lv, .int .u8 0, .int .u8 c, .int .i64 r] #[.int .u8 (atK asg lv), .int .u8 c] (by exact hbel.drew) (by exact hx) (by exact hs) hne hne').mono ?_; rintro e w4 ⟨rfl, hL4, hx4, hs4, hbel4⟩; have y3 : w4.cell? ⟨w.heap.size, 3, none⟩ = some (.int .i64 r) := hx4.cell 3; have q0 : w4.cell? ⟨w.heap.size + 1, 0, none⟩ = some (.int .u8 (atK asg lv)) := hs4.cell 0; have q1 : w4.cell? ⟨w.heap.size + 1, 1, none⟩ = some (.int .u8 c) := hs4.cell 1; have fq1 : w4.frozen? ⟨w.heap.size + 1, 1, none⟩ = false := hs4.frozen 1)))
      all_goals
        have hL5 := hL4.store (s := w.heap.size + 1) (by omega) 1 (.int .u8 (max c (atK asg r)))
        have hbel5 := hbel4.setCell (p := ⟨w.heap.size + 1, 1, none⟩) (by simp; omega) (.int .u8 (max c (atK asg r)))
        go_wp2_with fail
        go_ret
        exact ⟨by rw [← H.out]; rfl, by rw [HB.out]; exact hL5, hbel5⟩
    · have H : Hid (decide (atK asg lv ≤ c) = holdsQ asg lv 0 c r) := by show _ = _; unfold holdsQ; rw [hleft, show rightQ asg c r = c from if_neg hr0]
      have HB : Hid ((bad || badQ asg lv 0 r) = (or bad (!okV asg lv))) := by show _ = _; rw [hbadl, decide_eq_false hr0]; (cases bad <;> cases okV asg lv <;> cases okV asg r <;> rfl)
      have x3 : (w3.setCell ⟨w.heap.size + 1, 0, none⟩ (.int .u8 (atK asg lv))).cell? ⟨w.heap.size, 3, none⟩ = some (.int .i64 r) := hx.cell 3
      have s0 : (w3.setCell ⟨w.heap.size + 1, 0, none⟩ (.int .u8 (atK asg lv))).cell? ⟨w.heap.size + 1, 0, none⟩ = some (.int .u8 (atK asg lv)) := hs.cell 0
      have s1 : (w3.setCell ⟨w.heap.size + 1, 0, none⟩ (.int .u8 (atK asg lv))).cell? ⟨w.heap.size + 1, 1, none⟩ = some (.int .u8 c) := hs.cell 1
      clear hleft hbadl
      go_wp2_with fail
      go_ret
      exact ⟨by rw [← H.out]; rfl, by rw [HB.out]; exact hL, hbel⟩
  · have hleft : leftQ asg lv lc = lc := if_neg h0
    have hbadl : badQ asg lv lc r = (decide (0 ≤ r) && !okV asg r) := by simp [badQ, h0]
    have hlc : (lc == 0) = false := by simp [h0]
    by_cases hr0 : 0 ≤ r
    · have H : Hid (decide (lc ≤ max c (atK asg r)) = holdsQ asg lv lc c r) := by show _ = _; unfold holdsQ; rw [hleft, show rightQ asg c r = max c (atK asg r) from if_pos hr0]
      have HB : Hid ((bad || badQ asg lv lc r) = (bad || !okV asg r)) := by show _ = _; rw [hbadl, decide_eq_true hr0]; (cases bad <;> cases okV asg lv <;> cases okV asg r <;> rfl)
      have x3 : ((w.alloc (Obj.cells #[.int .i64 lv, .int .u8 lc, .int .u8 c, .int .i64 r] 31)).alloc (Obj.cells #[.int .u8 lc, .int .u8 c] 57)).cell? ⟨w.heap.size, 3, none⟩ = some (.int .i64 r) := hx.cell 3
      have s0 : ((w.alloc (Obj.cells #[.int .i64 lv, .int .u8 lc, .int .u8 c, .int .i64 r] 31)).alloc (Obj.cells #[.int .u8 lc, .int .u8 c] 57)).cell? ⟨w.heap.size + 1, 0, none⟩ = some (.int .u8 (lc)) := hs.cell 0
      have s1 : ((w.alloc (Obj.cells #[.int .i64 lv, .int .u8 lc, .int .u8 c, .int .i64 r] 31)).alloc (Obj.cells #[.int .u8 lc, .int .u8 c] 57)).cell? ⟨w.heap.size + 1, 1, none⟩ = some (.int .u8 c) := hs.cell 1
      have fs1 : ((w.alloc (Obj.cells #[.int .i64 lv, .int .u8 lc, .int .u8 c, .int .i64 r] 31)).alloc (Obj.cells #[.int .u8 lc, .int .u8 c] 57)).frozen? ⟨w.heap.size + 1, 1, none⟩ = false := hs.frozen 1
      clear hleft hbadl
      go_wp2_with fail
      go_region_with ((first | (go_at_call 69; refine (lookerAt_x r g asg (bad) _ (by exact hL) hr0 w w.heap.size (w.heap.size + 1) 31 57 #[.int .i64 lv, .int .u8 lc, .int .u8 c, .int .i64 r] #[.int .u8 (lc), .int .u8 c] (by exact hbel.drew) (by exact hx) (by exact hs) hne hne').mono ?_; rintro e w4 ⟨rfl, hL4, hx4, hs4, hbel4⟩; have y3 : w4.cell? ⟨w.heap.size, 3, none⟩ = some (.int .i64 r) := hx4.cell 3; have q0 : w4.cell? ⟨w.heap.size + 1, 0, none⟩ = some (.int .u8 (lc)) := hs4.cell 0; have q1 : w4.cell? ⟨w.heap.size + 1, 1, none⟩ = some (.int .u8 c) := hs4.cell 1; have fq1 : w4.frozen? ⟨w.heap.size + 1, 1, none⟩ = false := hs4.frozen 1)))
      all_goals
        have hL5 := hL4.store (s := w.heap.size + 1) (by omega) 1 (.int .u8 (max c (atK asg r)))
        have hbel5 := hbel4.setCell (p := ⟨w.heap.size + 1, 1, none⟩) (by simp; omega) (.int .u8 (max c (atK asg r)))
        go_wp2_with fail
        go_ret
        exact ⟨by rw [← H.out]; rfl, by rw [HB.out]; exact hL5, hbel5⟩
    · have H : Hid (decide (lc ≤ c) = holdsQ asg lv lc c r) := by show _ = _; unfold holdsQ; rw [hleft, show rightQ asg c r = c from if_neg hr0]
      have HB : Hid ((bad || badQ asg lv lc r) = bad) := by show _ = _; rw [hbadl, decide_eq_false hr0]; (cases bad <;> cases okV asg lv <;> cases okV asg r <;> rfl)
      have x3 : ((w.alloc (Obj.cells #[.int .i64 lv, .int .u8 lc, .int .u8 c, .int .i64 r] 31)).alloc (Obj.cells #[.int .u8 lc, .int .u8 c] 57)).cell? ⟨w.heap.size, 3, none⟩ = some (.int .i64 r) := hx.cell 3
      have s0 : ((w.alloc (Obj.cells #[.int .i64 lv, .int .u8 lc, .int .u8 c, .int .i64 r] 31)).alloc (Obj.cells #[.int .u8 lc, .int .u8 c] 57)).cell? ⟨w.heap.size + 1, 0, none⟩ = some (.int .u8 (lc)) := hs.cell 0
      have s1 : ((w.alloc (Obj.cells #[.int .i64 lv, .int .u8 lc, .int .u8 c, .int .i64 r] 31)).alloc (Obj.cells #[.int .u8 lc, .int .u8 c] 57)).cell? ⟨w.heap.size + 1, 1, none⟩ = some (.int .u8 c) := hs.cell 1
      clear hleft hbadl
      go_wp2_with fail
      go_ret
      exact ⟨by rw [← H.out]; rfl, by rw [HB.out]; exact hL, hbel⟩

end Go.Proofs.Ythabkpkgocafoaa
