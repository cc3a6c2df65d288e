/- Texts of this claim, laid one behind the other: SortI, UsesA, UsesB, UsesC. -/
import Derived.Test.YtimlbpjdgnapoaaShelf
import Derived.Test.YtimlbpjdgnapoaaM1
import Derived.Sort.OwnSortedInts
import Derived.BigQuiet
import Derived.Lib.QuietBelow
import Derived.Deep.QuietTactic
/- slices.Sort over a row of ints of the call's own. -/
namespace Go.Proofs.Ytimlbpjdgnapoaa
set_option linter.unusedVariables false
set_option linter.unusedSimpArgs false
open Go.RowKit Go.Sort

theorem sortI_any (base : Nat) (v : Value) (us : List Int) (w : World) (ho : w.ownsRow base 3 1 v us.length (us.map (Value.int .i64))) (hne : us ≠ []) (hm : us.length < 4611686018427387904) :
    Calls Try.prog 62 #[v] w fun e w' => e = .returned (.tuple #[]) ∧ w'.ownsRow base 3 1 v us.length ((us.mergeSort fun x y => decide (x ≤ y)).map (Value.int .i64)) ∧ w.grownBy w' v.ownBlock := by
  have hn0 : us.length ≠ 0 := fun e => hne (List.eq_nil_of_length_eq_zero e)
  have hv : v ≠ .slice none 0 0 := by
    rintro rfl
    rcases ho.2 with ⟨_, e⟩ | ⟨_, _, _, e, _⟩
    · exact hn0 e
    · cases e
  obtain ⟨g, cap, rfl, hg1, hg2, hgc, hgm, hl, hH⟩ := Lib.holds_of_ownsRow ho hv
  have hsort := Try.slices_Sort_int g 0 cap us w hH hg2 hm
  refine hsort.mono ?_
  rintro e w2 ⟨rfl, q, os, hw2⟩
  have hls : (us.mergeSort fun x y => decide (x ≤ y)).length = us.length := List.length_mergeSort _
  refine ⟨rfl, ?_, ?_⟩
  · rcases ho.2 with ⟨e0, _⟩ | ⟨g', cap', cur, e0, hb', hgg, hn', hm', hs', ht'⟩
    · cases e0
    · injection e0 with e1 _ e3
      injection e1 with e1
      injection e1 with e1
      subst e1; subst e3
      rw [hw2]
      exact ownsRow_sortedI hls hg1 hgg hgc hgm hs'
  · rw [hw2]; exact grownBy_sortedI _

end Go.Proofs.Ytimlbpjdgnapoaa

/- Uses in memory; the contract of uses.May. -/
namespace Go.Proofs.Ytimlbpjdgnapoaa
set_option linter.unusedVariables false
set_option linter.unusedSimpArgs false
open Go.RowKit

/-- a variable's use -/
structure UseD where
  v : Int
  t : TermD
/-- a use in four cells -/
def UseAt (w : World) (B b off : Nat) (x : UseD) : Prop := w.cell? ⟨b, off, none⟩ = some (.int .i64 x.v) ∧ TermAt w B b (off + 1) x.t
/-- a slice of uses -/
def UsesV (w : World) (B : Nat) (A : Option Addr) (n c : Nat) (xs : List UseD) : Prop :=
  xs.length = n ∧ n ≤ c ∧ c ≤ maxLen ∧ (0 < n → ∃ b off, A = some ⟨b, off, none⟩ ∧ b < B ∧ ∀ i (h : i < xs.length), UseAt w B b (off + i * 4) xs[i])
section
variable {w w' : World} {B B' : Nat} {A : Option Addr} {n c : Nat} {xs : List UseD}
theorem UseAt.keep {b off : Nat} {x : UseD} (h : UseAt w B b off x) (hb : b < B) (hk : ∀ p : Addr, p.block < B → w'.cell? p = w.cell? p) : UseAt w' B b off x := ⟨(hk _ hb).trans h.1, h.2.keep hb hk⟩
theorem UseAt.more {b off : Nat} {x : UseD} (h : UseAt w B b off x) (hB : B ≤ B') : UseAt w B' b off x := ⟨h.1, h.2.more hB⟩
theorem UsesV.keep (h : UsesV w B A n c xs) (hk : ∀ p : Addr, p.block < B → w'.cell? p = w.cell? p) : UsesV w' B A n c xs := by
  obtain ⟨h1, h2, h3, h4⟩ := h
  refine ⟨h1, h2, h3, fun hn => ?_⟩
  obtain ⟨b, off, e, hb, hc⟩ := h4 hn
  exact ⟨b, off, e, hb, fun i hi => (hc i hi).keep hb hk⟩
theorem UsesV.more (h : UsesV w B A n c xs) (hB : B ≤ B') : UsesV w B' A n c xs := by
  obtain ⟨h1, h2, h3, h4⟩ := h
  refine ⟨h1, h2, h3, fun hn => ?_⟩
  obtain ⟨b, off, e, hb, hc⟩ := h4 hn
  exact ⟨b, off, e, by omega, fun i hi => (hc i hi).more hB⟩
theorem UsesV.below (h : UsesV w B A n c xs) (hb : Below B w w') : UsesV w' B A n c xs := h.keep fun _ hp => hb.cell hp
theorem UsesV.nil : UsesV w B none 0 0 [] := ⟨rfl, Nat.le_refl _, Nat.zero_le _, fun h => absurd h (by omega)⟩
theorem UsesV.len (h : UsesV w B A n c xs) : xs.length = n := h.1
theorem UsesV.at_ (h : UsesV w B A n c xs) (hn : 0 < n) : ∃ b off, A = some ⟨b, off, none⟩ ∧ b < B ∧ ∀ i (h : i < xs.length), UseAt w B b (off + i * 4) xs[i] := h.2.2.2 hn
end

/-- may a use stand behind variable p? -/
def mayS (p : Int) (x : UseD) : Bool := decide (0 ≤ x.v) && decide (x.v < 1048576) && decide (p < x.v) && !x.t.never && mayB x.t
def mayFrom : Int → List UseD → Bool
  | _, [] => true
  | p, x :: r => mayS p x && mayFrom x.v r
def mayU (l : List UseD) : Bool := mayFrom (-1) l
def mayUE (l : List UseD) : Int := if mayU l then 0 else 2
theorem mayUE_yes {l : List UseD} (h : mayU l = true) : mayUE l = 0 := by simp [mayUE, h]
theorem mayUE_no {l : List UseD} (h : mayU l = false) : mayUE l = 2 := by simp [mayUE, h]
theorem term_at {v : Value} {t : TermD} {w : World} {B : Nat} {x : Int} (hx : mayE t = x) (hv : TermV w B v t) (hB : B ≤ w.heap.size) :
    Calls Try.prog 42 #[v] w fun e w' => e = .returned (.int .i64 x) ∧ Below w.heap.size w w' := by
  rw [← hx]; exact may_any v t w B hv hB

set_option maxRecDepth 100000 in
set_option maxHeartbeats 2000000 in
theorem usesMay_any (A : Option Addr) (n c : Nat) (xs : List UseD) (w : World) (hx : UsesV w w.heap.size A n c xs) :
    Calls Try.prog 16 #[.slice A n c] w fun e w' => e = .returned (.int .i64 (mayUE xs)) ∧ Below w.heap.size w w' := by
  have hxl := hx.len
  have n63 : n ≤ 9223372036854775807 := Nat.le_trans hx.2.1 hx.2.2.1
  have Hx := Lib.hid hx
  clear hx
  go_enter Try.func16, Try.ntmps16
  go_wp2_with fail
  go_loopg [7] n (fun gh i wr => ∃ (k : Nat) (p : Int), k ≤ n ∧ gh = n - k ∧ i = .int .i64 (k : Nat) ∧ mayU xs = mayFrom p (xs.drop k) ∧ (k = 0 → p = -1) ∧ (∀ (k' : Nat) (h : k' < xs.length), k = k' + 1 → p = xs[k'].v) ∧ Below w.heap.size w wr)
  case atStart => exact ⟨0, -1, Nat.zero_le _, rfl, rfl, rfl, fun _ => rfl, fun k' _ h => absurd h (by omega), Below.refl _ _⟩
  case round =>
    obtain ⟨k, p, hk, rfl, rfl, hmay, hp0, hp1, hbel⟩ := hrel
    have Hmay := Lib.hid hmay
    have Hbel := Lib.hid hbel
    by_cases hkn : k < n
    · have hk' : k < xs.length := by omega
      obtain ⟨b, o, q, hb, hc⟩ := (Hx.out.below hbel).at_ (by omega)
      subst q
      obtain ⟨e0, Ax, nx, cx, e1, e2, e3, hrx⟩ := hc k hk'
      have hdrop : xs.drop k = xs[k] :: xs.drop (k + 1) := List.drop_eq_getElem_cons hk'
      have Hdrop := Lib.hid hdrop
      have hprev : ∀ k', k = k' + 1 → ∃ q : Int, wr.cell? ⟨b, o + k' * 4, none⟩ = some (.int .i64 q) ∧ p = q := fun k' e => by
        have hk2 : k' < xs.length := by omega
        exact ⟨_, (hc k' hk2).1, hp1 k' hk2 e⟩
      have Hprev := Lib.hid hprev
      have Hp0 := Lib.hid hp0
      obtain ⟨⟨xv, nv, tc, vs⟩, hxk⟩ : ∃ x, xs[k] = x := ⟨_, rfl⟩
      rw [hxk] at e0 e1 e2 hrx hdrop
      have hno : mayS p ⟨xv, ⟨nv, tc, vs⟩⟩ = false → 2 = mayUE xs := fun h => by
        rw [mayUE_no]
        rw [hmay, hdrop]
        simp [mayFrom, h]
      have Hno := Lib.hid hno
      have Hxk := Lib.hid hxk
      have Hdrop := Lib.hid hdrop
      dsimp only at e0 e1 e2 hrx
      replace e2 : wr.cell? ⟨b, o + k * 4 + 2, none⟩ = some (.int .u8 tc) := e2
      replace e3 : wr.cell? ⟨b, o + k * 4 + 3, none⟩ = some (.slice Ax nx cx) := e3
      have i1 : (0 : Int) ≤ (k : Int) := by omega
      have i2 : (k : Int) < n := by omega
      have hX := blk_new wr #[.int .i64 xv, .bool nv, .int .u8 tc, .slice Ax nx cx] 41
      have hbx := below_box (w := wr) (Obj.cells #[.int .i64 xv, .bool nv, .int .u8 tc, .slice Ax nx cx] 41)
      have HX := Lib.hid hX
      have Hb1 := Lib.hid (hbel.trans (hbx.mono hbel.size))
      have Hq : Hid (TermV (wr.alloc (Obj.cells #[.int .i64 xv, .bool nv, .int .u8 tc, .slice Ax nx cx] 41)) (wr.alloc (Obj.cells #[.int .i64 xv, .bool nv, .int .u8 tc, .slice Ax nx cx] 41)).heap.size (.agg #[.bool nv, .int .u8 tc, .slice Ax nx cx]) ⟨nv, tc, vs⟩) := Lib.hid ⟨Ax, nx, cx, rfl, ((hrx.more hbel.size).below hbx).more hbx.size⟩
      have hsm : ∀ p, mayS p ⟨xv, ⟨nv, tc, vs⟩⟩ = (decide (0 ≤ xv) && decide (xv < 1048576) && decide (p < xv) && !nv && mayB ⟨nv, tc, vs⟩) := fun _ => rfl
      clear hc hrx hdrop hno hprev hp0 hp1 hmay hX hbx hbel hxk
      by_cases hv0 : xv < 0
      · have f1 : decide (xv < 0) = true := by simp; omega
        have HF : Hid (2 = mayUE xs) := Lib.hid (Hno.out (by rw [hsm]; simp [Int.not_le.2 hv0]))
        clear hsm hv0
        go_wp2_with fail
        generalize hW : wr.alloc (Obj.cells #[.int .i64 xv, .bool nv, .int .u8 tc, .slice Ax nx cx] 41) = w1 at HX Hb1 Hq HX ⊢
        clear hW
        have kx0 := fun d os => cell_regrown (HX.out.cell 0) d os
        have kx1 := fun d os => cell_regrown (HX.out.cell 1) d os
        have kx2 := fun d os => cell_regrown (HX.out.cell 2) d os
        have kx3 := fun d os => cell_regrown (HX.out.cell 3) d os
        have hq : ∀ d os, Calls Try.prog 42 #[.agg #[.bool nv, .int .u8 tc, .slice Ax nx cx]] («Sort».grow (redrawn w1 d) os) (fun e w' => e = .returned (.int .i64 (mayE ⟨nv, tc, vs⟩)) ∧ Below («Sort».grow (redrawn w1 d) os).heap.size («Sort».grow (redrawn w1 d) os) w') := fun d os =>
          may_any _ ⟨nv, tc, vs⟩ _ _ ((Hq.out.below (below_regrown w1 d os)).more (below_regrown w1 d os).size) (Nat.le_refl _)
        replace hq := Lib.hid hq
        skip
        refine wp_region_quiet_below (by kernel_rfl) (by kernel_rfl) ?_
        repeat (go_big_quiet_step ((first | (go_at_call 42; exact Calls.regrown_of (hq.out _ _)))))
        refine wpQuiet_nil ?_
        intro _ hw'
        obtain ⟨⟨dq, osq⟩, hw''⟩ := hw'
        subst hw''
        have Hb2 := Lib.hid (Hb1.out.trans ((below_regrown w1 dq osq).mono Hb1.out.size))
        clear kx0 kx1 kx2 kx3 hq
        go_wp2_with fail
        go_ret
        exact ⟨ret_int HF.out, Hb2.out⟩
      · have f1 : decide (xv < 0) = false := by simp; omega
        by_cases hv1 : xv ≥ 1048576
        · have f2 : decide (xv ≥ 1048576) = true := by simp; omega
          have HF : Hid (2 = mayUE xs) := Lib.hid (Hno.out (by rw [hsm]; simp [Int.not_lt.2 hv1]))
          clear hsm hv0 hv1
          go_wp2_with fail
          generalize hW : wr.alloc (Obj.cells #[.int .i64 xv, .bool nv, .int .u8 tc, .slice Ax nx cx] 41) = w1 at HX Hb1 Hq HX ⊢
          clear hW
          have kx0 := fun d os => cell_regrown (HX.out.cell 0) d os
          have kx1 := fun d os => cell_regrown (HX.out.cell 1) d os
          have kx2 := fun d os => cell_regrown (HX.out.cell 2) d os
          have kx3 := fun d os => cell_regrown (HX.out.cell 3) d os
          have hq : ∀ d os, Calls Try.prog 42 #[.agg #[.bool nv, .int .u8 tc, .slice Ax nx cx]] («Sort».grow (redrawn w1 d) os) (fun e w' => e = .returned (.int .i64 (mayE ⟨nv, tc, vs⟩)) ∧ Below («Sort».grow (redrawn w1 d) os).heap.size («Sort».grow (redrawn w1 d) os) w') := fun d os =>
            may_any _ ⟨nv, tc, vs⟩ _ _ ((Hq.out.below (below_regrown w1 d os)).more (below_regrown w1 d os).size) (Nat.le_refl _)
          replace hq := Lib.hid hq
          skip
          refine wp_region_quiet_below (by kernel_rfl) (by kernel_rfl) ?_
          repeat (go_big_quiet_step ((first | (go_at_call 42; exact Calls.regrown_of (hq.out _ _)))))
          refine wpQuiet_nil ?_
          intro _ hw'
          obtain ⟨⟨dq, osq⟩, hw''⟩ := hw'
          subst hw''
          have Hb2 := Lib.hid (Hb1.out.trans ((below_regrown w1 dq osq).mono Hb1.out.size))
          clear kx0 kx1 kx2 kx3 hq
          go_wp2_with fail
          go_ret
          exact ⟨ret_int HF.out, Hb2.out⟩
        · have f2 : decide (xv ≥ 1048576) = false := by simp; omega
          cases k with
          | zero =>
            obtain rfl : p = -1 := Hp0.out rfl
            simp only [Nat.zero_mul, Nat.add_zero] at e0 e1 e2 e3
            have hpx : decide (-1 < xv) = true := by simp; omega
            cases nv with
            | true =>
              have HF : Hid (2 = mayUE xs) := Lib.hid (Hno.out (by rw [hsm]; simp))
              clear hsm hv0 hv1 hpx
              go_wp2_with fail
              generalize hW : wr.alloc (Obj.cells #[.int .i64 xv, .bool true, .int .u8 tc, .slice Ax nx cx] 41) = w1 at HX Hb1 Hq HX ⊢
              clear hW
              have kx0 := fun d os => cell_regrown (HX.out.cell 0) d os
              have kx1 := fun d os => cell_regrown (HX.out.cell 1) d os
              have kx2 := fun d os => cell_regrown (HX.out.cell 2) d os
              have kx3 := fun d os => cell_regrown (HX.out.cell 3) d os
              have hq : ∀ d os, Calls Try.prog 42 #[.agg #[.bool true, .int .u8 tc, .slice Ax nx cx]] («Sort».grow (redrawn w1 d) os) (fun e w' => e = .returned (.int .i64 (mayE ⟨true, tc, vs⟩)) ∧ Below («Sort».grow (redrawn w1 d) os).heap.size («Sort».grow (redrawn w1 d) os) w') := fun d os =>
                may_any _ ⟨true, tc, vs⟩ _ _ ((Hq.out.below (below_regrown w1 d os)).more (below_regrown w1 d os).size) (Nat.le_refl _)
              replace hq := Lib.hid hq
              skip
              refine wp_region_quiet_below (by kernel_rfl) (by kernel_rfl) ?_
              repeat (go_big_quiet_step ((first | (go_at_call 42; exact Calls.regrown_of (hq.out _ _)))))
              refine wpQuiet_nil ?_
              intro _ hw'
              obtain ⟨⟨dq, osq⟩, hw''⟩ := hw'
              subst hw''
              have Hb2 := Lib.hid (Hb1.out.trans ((below_regrown w1 dq osq).mono Hb1.out.size))
              clear kx0 kx1 kx2 kx3 hq
              go_wp2_with fail
              go_ret
              exact ⟨ret_int HF.out, Hb2.out⟩
            | false =>
              cases hm : mayB ⟨false, tc, vs⟩ with
              | false =>
                have HM := Lib.hid (mayE_no hm)
                have HF : Hid (2 = mayUE xs) := Lib.hid (Hno.out (by rw [hsm, hm]; simp))
                clear hsm hv0 hv1 hpx hm
                go_wp2_with fail
                generalize hW : wr.alloc (Obj.cells #[.int .i64 xv, .bool false, .int .u8 tc, .slice Ax nx cx] 41) = w1 at HX Hb1 Hq HX ⊢
                clear hW
                have kx0 := fun d os => cell_regrown (HX.out.cell 0) d os
                have kx1 := fun d os => cell_regrown (HX.out.cell 1) d os
                have kx2 := fun d os => cell_regrown (HX.out.cell 2) d os
                have kx3 := fun d os => cell_regrown (HX.out.cell 3) d os
                have hq : ∀ d os, Calls Try.prog 42 #[.agg #[.bool false, .int .u8 tc, .slice Ax nx cx]] («Sort».grow (redrawn w1 d) os) (fun e w' => e = .returned (.int .i64 (mayE ⟨false, tc, vs⟩)) ∧ Below («Sort».grow (redrawn w1 d) os).heap.size («Sort».grow (redrawn w1 d) os) w') := fun d os =>
                  may_any _ ⟨false, tc, vs⟩ _ _ ((Hq.out.below (below_regrown w1 d os)).more (below_regrown w1 d os).size) (Nat.le_refl _)
                replace hq := Lib.hid hq
                skip; rw [HM.out] at hq
                refine wp_region_quiet_below (by kernel_rfl) (by kernel_rfl) ?_
                repeat (go_big_quiet_step ((first | (go_at_call 42; exact Calls.regrown_of (hq.out _ _)))))
                refine wpQuiet_nil ?_
                intro _ hw'
                obtain ⟨⟨dq, osq⟩, hw''⟩ := hw'
                subst hw''
                have Hb2 := Lib.hid (Hb1.out.trans ((below_regrown w1 dq osq).mono Hb1.out.size))
                clear kx0 kx1 kx2 kx3 hq
                go_wp2_with fail
                go_ret
                exact ⟨ret_int HF.out, Hb2.out⟩
              | true =>
                have HM := Lib.hid (mayE_yes hm)
                have HY : Hid (∀ q, decide (q < xv) = true → mayS q ⟨xv, ⟨false, tc, vs⟩⟩ = true) := Lib.hid fun q h => by rw [hsm, hm, h]; simp; omega
                have Hpx := Lib.hid hpx
                clear hsm hv0 hv1 hpx hm
                go_wp2_with fail
                generalize hW : wr.alloc (Obj.cells #[.int .i64 xv, .bool false, .int .u8 tc, .slice Ax nx cx] 41) = w1 at HX Hb1 Hq HX ⊢
                clear hW
                have kx0 := fun d os => cell_regrown (HX.out.cell 0) d os
                have kx1 := fun d os => cell_regrown (HX.out.cell 1) d os
                have kx2 := fun d os => cell_regrown (HX.out.cell 2) d os
                have kx3 := fun d os => cell_regrown (HX.out.cell 3) d os
                have hq : ∀ d os, Calls Try.prog 42 #[.agg #[.bool false, .int .u8 tc, .slice Ax nx cx]] («Sort».grow (redrawn w1 d) os) (fun e w' => e = .returned (.int .i64 (mayE ⟨false, tc, vs⟩)) ∧ Below («Sort».grow (redrawn w1 d) os).heap.size («Sort».grow (redrawn w1 d) os) w') := fun d os =>
                  may_any _ ⟨false, tc, vs⟩ _ _ ((Hq.out.below (below_regrown w1 d os)).more (below_regrown w1 d os).size) (Nat.le_refl _)
                replace hq := Lib.hid hq
                skip; rw [HM.out] at hq
                refine wp_region_quiet_below (by kernel_rfl) (by kernel_rfl) ?_
                repeat (go_big_quiet_step ((first | (go_at_call 42; exact Calls.regrown_of (hq.out _ _)))))
                refine wpQuiet_nil ?_
                intro _ hw'
                obtain ⟨⟨dq, osq⟩, hw''⟩ := hw'
                subst hw''
                have Hb2 := Lib.hid (Hb1.out.trans ((below_regrown w1 dq osq).mono Hb1.out.size))
                clear kx0 kx1 kx2 kx3 hq
                go_wp2_with fail
                go_roundg (n - ((0) + 1))
                case measure => omega
                case rel => exact ⟨(0) + 1, xv, by omega, rfl, by simp, by rw [Hmay.out, Hdrop.out]; simp [mayFrom, HY.out _ Hpx.out], fun h => absurd h (by omega), fun k' h e => (by cases e; rw [Hxk.out]), Hb2.out⟩
          | succ k' =>
            obtain ⟨q, hq0, hpq⟩ := Hprev.out k' rfl
            subst hpq
            have g1 : decide ((k' : Int) + 1 > 0) = true := by first | (simp; done) | (simp; omega)
            have i4 : (0 : Int) ≤ (k' : Int) + 1 := by omega
            have i5 : (k' : Int) + 1 < n := by omega
            have i6 : (0 : Int) ≤ (k' : Int) := by omega
            have i7 : (k' : Int) < n := by omega
            have Hq1 := Lib.hid ((World.cell?_alloc_lt wr (Obj.cells #[.int .i64 xv, .bool nv, .int .u8 tc, .slice Ax nx cx] 41) ⟨b, o + k' * 4, none⟩ (block_lt_of_cell hq0)).trans hq0)
            clear hq0
            by_cases hvp : xv ≤ p
            · have f3 : decide (xv ≤ p) = true := by simp; omega
              have HF : Hid (2 = mayUE xs) := Lib.hid (Hno.out (by rw [hsm]; simp [Int.not_lt.2 hvp]))
              clear hsm hv0 hv1 hvp
              go_wp2_with fail
              generalize hW : wr.alloc (Obj.cells #[.int .i64 xv, .bool nv, .int .u8 tc, .slice Ax nx cx] 41) = w1 at HX Hb1 Hq Hq1 ⊢
              clear hW
              have kx0 := fun d os => cell_regrown (HX.out.cell 0) d os
              have kx1 := fun d os => cell_regrown (HX.out.cell 1) d os
              have kx2 := fun d os => cell_regrown (HX.out.cell 2) d os
              have kx3 := fun d os => cell_regrown (HX.out.cell 3) d os
              have hq : ∀ d os, Calls Try.prog 42 #[.agg #[.bool nv, .int .u8 tc, .slice Ax nx cx]] («Sort».grow (redrawn w1 d) os) (fun e w' => e = .returned (.int .i64 (mayE ⟨nv, tc, vs⟩)) ∧ Below («Sort».grow (redrawn w1 d) os).heap.size («Sort».grow (redrawn w1 d) os) w') := fun d os =>
                may_any _ ⟨nv, tc, vs⟩ _ _ ((Hq.out.below (below_regrown w1 d os)).more (below_regrown w1 d os).size) (Nat.le_refl _)
              replace hq := Lib.hid hq
              have kx4 := fun d os => cell_regrown Hq1.out d os
              refine wp_region_quiet_below (by kernel_rfl) (by kernel_rfl) ?_
              repeat (go_big_quiet_step ((first | (go_at_call 42; exact Calls.regrown_of (hq.out _ _)))))
              refine wpQuiet_nil ?_
              intro _ hw'
              obtain ⟨⟨dq, osq⟩, hw''⟩ := hw'
              subst hw''
              have Hb2 := Lib.hid (Hb1.out.trans ((below_regrown w1 dq osq).mono Hb1.out.size))
              clear kx0 kx1 kx2 kx3 hq
              go_wp2_with fail
              go_ret
              exact ⟨ret_int HF.out, Hb2.out⟩
            · have f3 : decide (xv ≤ p) = false := by simp; omega
              have hpx : decide (p < xv) = true := by simp; omega
              cases nv with
              | true =>
                have HF : Hid (2 = mayUE xs) := Lib.hid (Hno.out (by rw [hsm]; simp))
                clear hsm hv0 hv1 hpx
                go_wp2_with fail
                generalize hW : wr.alloc (Obj.cells #[.int .i64 xv, .bool true, .int .u8 tc, .slice Ax nx cx] 41) = w1 at HX Hb1 Hq Hq1 ⊢
                clear hW
                have kx0 := fun d os => cell_regrown (HX.out.cell 0) d os
                have kx1 := fun d os => cell_regrown (HX.out.cell 1) d os
                have kx2 := fun d os => cell_regrown (HX.out.cell 2) d os
                have kx3 := fun d os => cell_regrown (HX.out.cell 3) d os
                have hq : ∀ d os, Calls Try.prog 42 #[.agg #[.bool true, .int .u8 tc, .slice Ax nx cx]] («Sort».grow (redrawn w1 d) os) (fun e w' => e = .returned (.int .i64 (mayE ⟨true, tc, vs⟩)) ∧ Below («Sort».grow (redrawn w1 d) os).heap.size («Sort».grow (redrawn w1 d) os) w') := fun d os =>
                  may_any _ ⟨true, tc, vs⟩ _ _ ((Hq.out.below (below_regrown w1 d os)).more (below_regrown w1 d os).size) (Nat.le_refl _)
                replace hq := Lib.hid hq
                have kx4 := fun d os => cell_regrown Hq1.out d os
                refine wp_region_quiet_below (by kernel_rfl) (by kernel_rfl) ?_
                repeat (go_big_quiet_step ((first | (go_at_call 42; exact Calls.regrown_of (hq.out _ _)))))
                refine wpQuiet_nil ?_
                intro _ hw'
                obtain ⟨⟨dq, osq⟩, hw''⟩ := hw'
                subst hw''
                have Hb2 := Lib.hid (Hb1.out.trans ((below_regrown w1 dq osq).mono Hb1.out.size))
                clear kx0 kx1 kx2 kx3 hq
                go_wp2_with fail
                go_ret
                exact ⟨ret_int HF.out, Hb2.out⟩
              | false =>
                cases hm : mayB ⟨false, tc, vs⟩ with
                | false =>
                  have HM := Lib.hid (mayE_no hm)
                  have HF : Hid (2 = mayUE xs) := Lib.hid (Hno.out (by rw [hsm, hm]; simp))
                  clear hsm hv0 hv1 hpx hm
                  go_wp2_with fail
                  generalize hW : wr.alloc (Obj.cells #[.int .i64 xv, .bool false, .int .u8 tc, .slice Ax nx cx] 41) = w1 at HX Hb1 Hq Hq1 ⊢
                  clear hW
                  have kx0 := fun d os => cell_regrown (HX.out.cell 0) d os
                  have kx1 := fun d os => cell_regrown (HX.out.cell 1) d os
                  have kx2 := fun d os => cell_regrown (HX.out.cell 2) d os
                  have kx3 := fun d os => cell_regrown (HX.out.cell 3) d os
                  have hq : ∀ d os, Calls Try.prog 42 #[.agg #[.bool false, .int .u8 tc, .slice Ax nx cx]] («Sort».grow (redrawn w1 d) os) (fun e w' => e = .returned (.int .i64 (mayE ⟨false, tc, vs⟩)) ∧ Below («Sort».grow (redrawn w1 d) os).heap.size («Sort».grow (redrawn w1 d) os) w') := fun d os =>
                    may_any _ ⟨false, tc, vs⟩ _ _ ((Hq.out.below (below_regrown w1 d os)).more (below_regrown w1 d os).size) (Nat.le_refl _)
                  replace hq := Lib.hid hq
                  have kx4 := fun d os => cell_regrown Hq1.out d os; rw [HM.out] at hq
                  refine wp_region_quiet_below (by kernel_rfl) (by kernel_rfl) ?_
                  repeat (go_big_quiet_step ((first | (go_at_call 42; exact Calls.regrown_of (hq.out _ _)))))
                  refine wpQuiet_nil ?_
                  intro _ hw'
                  obtain ⟨⟨dq, osq⟩, hw''⟩ := hw'
                  subst hw''
                  have Hb2 := Lib.hid (Hb1.out.trans ((below_regrown w1 dq osq).mono Hb1.out.size))
                  clear kx0 kx1 kx2 kx3 hq
                  go_wp2_with fail
                  go_ret
                  exact ⟨ret_int HF.out, Hb2.out⟩
                | true =>
                  have HM := Lib.hid (mayE_yes hm)
                  have HY : Hid (∀ q, decide (q < xv) = true → mayS q ⟨xv, ⟨false, tc, vs⟩⟩ = true) := Lib.hid fun q h => by rw [hsm, hm, h]; simp; omega
                  have Hpx := Lib.hid hpx
                  clear hsm hv0 hv1 hpx hm
                  go_wp2_with fail
                  generalize hW : wr.alloc (Obj.cells #[.int .i64 xv, .bool false, .int .u8 tc, .slice Ax nx cx] 41) = w1 at HX Hb1 Hq Hq1 ⊢
                  clear hW
                  have kx0 := fun d os => cell_regrown (HX.out.cell 0) d os
                  have kx1 := fun d os => cell_regrown (HX.out.cell 1) d os
                  have kx2 := fun d os => cell_regrown (HX.out.cell 2) d os
                  have kx3 := fun d os => cell_regrown (HX.out.cell 3) d os
                  have hq : ∀ d os, Calls Try.prog 42 #[.agg #[.bool false, .int .u8 tc, .slice Ax nx cx]] («Sort».grow (redrawn w1 d) os) (fun e w' => e = .returned (.int .i64 (mayE ⟨false, tc, vs⟩)) ∧ Below («Sort».grow (redrawn w1 d) os).heap.size («Sort».grow (redrawn w1 d) os) w') := fun d os =>
                    may_any _ ⟨false, tc, vs⟩ _ _ ((Hq.out.below (below_regrown w1 d os)).more (below_regrown w1 d os).size) (Nat.le_refl _)
                  replace hq := Lib.hid hq
                  have kx4 := fun d os => cell_regrown Hq1.out d os; rw [HM.out] at hq
                  refine wp_region_quiet_below (by kernel_rfl) (by kernel_rfl) ?_
                  repeat (go_big_quiet_step ((first | (go_at_call 42; exact Calls.regrown_of (hq.out _ _)))))
                  refine wpQuiet_nil ?_
                  intro _ hw'
                  obtain ⟨⟨dq, osq⟩, hw''⟩ := hw'
                  subst hw''
                  have Hb2 := Lib.hid (Hb1.out.trans ((below_regrown w1 dq osq).mono Hb1.out.size))
                  clear kx0 kx1 kx2 kx3 hq
                  go_wp2_with fail
                  go_roundg (n - ((k' + 1) + 1))
                  case measure => omega
                  case rel => exact ⟨(k' + 1) + 1, xv, by omega, rfl, by simp, by rw [Hmay.out, Hdrop.out]; simp [mayFrom, HY.out _ Hpx.out], fun h => absurd h (by omega), fun k' h e => (by cases e; rw [Hxk.out]), Hb2.out⟩
    · have HF : Hid (0 = mayUE xs) := by
        show _ = _
        rw [mayUE_yes]
        rw [hmay, List.drop_eq_nil_of_le (by omega)]
        rfl
      clear hmay hp0 hp1 hbel
      go_wp2_with fail
      go_ret
      exact ⟨ret_int HF.out, Hbel.out⟩

end Go.Proofs.Ytimlbpjdgnapoaa

/- Contracts of uses.find and uses.of. -/
namespace Go.Proofs.Ytimlbpjdgnapoaa
set_option linter.unusedVariables false
set_option linter.unusedSimpArgs false
open Go.RowKit

theorem wrap_zero {x v : Int} (hx : 0 ≤ x ∧ x < 1048576) (hv : -9223372036854775808 ≤ v ∧ v ≤ 9223372036854775807) : wrap64 (x - v) = 0 ↔ x = v := by
  rw [← IntWalk.i64_left, IntKind.wrap_i64]; omega
theorem wrap_near {x v : Int} (hx : 0 ≤ x ∧ x < 1048576) (hv : 0 ≤ v ∧ v < 1048576) : wrap64 (x - v) = x - v := by rw [← IntWalk.i64_left]; exact IntWalk.i64_in _ (by omega)

theorem find1_any (x : UseD) (v : Int) (A : Option Addr) (n c : Nat) (d : Int) (hd : wrap64 (x.v - v) = d) (w : World) :
    Calls Try.prog 87 #[.agg #[.int .i64 x.v, .bool x.t.never, .int .u8 x.t.c, .slice A n c], .int .i64 v] w fun e w' => e = .returned (.int .i64 d) ∧ Below w.heap.size w w' := by
  have hX := blk_new w #[.int .i64 x.v, .bool x.t.never, .int .u8 x.t.c, .slice A n c] 41
  have hb := below_box (w := w) (Obj.cells #[.int .i64 x.v, .bool x.t.never, .int .u8 x.t.c, .slice A n c] 41)
  have x0 : (w.alloc (Obj.cells #[.int .i64 x.v, .bool x.t.never, .int .u8 x.t.c, .slice A n c] 41)).cell? ⟨w.heap.size, 0, none⟩ = some (.int .i64 x.v) := hX.cell 0
  have Hd := Lib.hid hd
  clear hd
  go_enter Try.func87, Try.ntmps87
  go_wp2_with fail
  go_ret
  exact ⟨ret_int Hd.out, hb⟩

/-- the variables rise, and are ones -/
structure RiseU (xs : List UseD) : Prop where
  rng : ∀ x ∈ xs, 0 ≤ x.v ∧ x.v < 1048576
  up : ∀ (i j : Nat) (h : i < j) (hj : j < xs.length), xs[i].v < xs[j].v
theorem mayFrom_rise : ∀ (p : Int) (xs : List UseD), mayFrom p xs = true → (∀ x ∈ xs, p < x.v ∧ 0 ≤ x.v ∧ x.v < 1048576 ∧ x.t.never = false ∧ mayB x.t = true) ∧ ∀ (i j : Nat) (h : i < j) (hj : j < xs.length), xs[i].v < xs[j].v
  | p, [], _ => ⟨fun x hx => absurd hx (by simp), fun i j h hj => absurd hj (by simp)⟩
  | p, x :: r, h => by
    unfold mayFrom mayS at h
    simp only [Bool.and_eq_true, decide_eq_true_eq, Bool.not_eq_true'] at h
    obtain ⟨⟨⟨⟨⟨h1, h2⟩, h3⟩, h4⟩, h5⟩, h6⟩ := h
    obtain ⟨k1, k2⟩ := mayFrom_rise x.v r h6
    refine ⟨fun y hy => ?_, fun i j hij hj => ?_⟩
    · rcases List.mem_cons.1 hy with rfl | hy
      · exact ⟨h3, h1, h2, h4, h5⟩
      · obtain ⟨q1, q2⟩ := k1 y hy
        exact ⟨by omega, q2⟩
    · match i, j, hij, hj with
      | 0, j + 1, _, hj =>
        have hj' : j < r.length := by simpa using hj
        exact (k1 _ (List.getElem_mem hj')).1
      | i + 1, j + 1, hij, hj => exact k2 i j (by omega) (by simpa using hj)
theorem mayU_rise {xs : List UseD} (h : mayU xs = true) : RiseU xs := ⟨fun x hx => by have := (mayFrom_rise _ _ h).1 x hx; exact ⟨this.2.1, this.2.2.1⟩, (mayFrom_rise _ _ h).2⟩

def FindPost (xs : List UseD) (v : Int) (w : World) (e : Ending) (w' : World) : Prop :=
  ∃ (i : Nat) (b : Bool), e = .returned (.tuple #[.int .i64 i, .bool b]) ∧ (b = true → ∃ h : i < xs.length, xs[i].v = v) ∧ (b = false → ∀ x ∈ xs, x.v ≠ v) ∧ Below w.heap.size w w'

set_option maxRecDepth 100000 in
set_option maxHeartbeats 2000000 in
theorem search_any (v : Int) (A : Option Addr) (n c : Nat) (xs : List UseD) (w : World) (hx : UsesV w w.heap.size A n c xs) (hr : RiseU xs) (hv : -9223372036854775808 ≤ v ∧ v ≤ 9223372036854775807) (hn : n ≤ 1048576) :
    Calls Try.prog 86 #[.slice A n c, .int .i64 v, .func (.func 87) #[] #[]] w (FindPost xs v w) := by
  have hxl := hx.len
  have n63 : n ≤ 9223372036854775807 := Nat.le_trans hx.2.1 hx.2.2.1
  have Hx := Lib.hid hx
  have Hr := Lib.hid hr
  have Hv := Lib.hid hv
  clear hx hr hv
  go_enter Try.func86, Try.ntmps86
  go_wp2_with fail
  go_loopg [9, 10] n (fun gh vi vj wr => ∃ (i j : Nat), vi = .int .i64 (i : Nat) ∧ vj = .int .i64 (j : Nat) ∧ gh = j - i ∧ i ≤ j ∧ j ≤ n ∧ (0 ≤ v → v < 1048576 → (∀ (k : Nat) (h : k < xs.length), k < i → xs[k].v < v) ∧ (∀ (k : Nat) (h : k < xs.length), j ≤ k → v ≤ xs[k].v)) ∧ Below w.heap.size w wr)
  case atStart => exact ⟨0, n, rfl, rfl, rfl, Nat.zero_le _, Nat.le_refl _, fun _ _ => ⟨fun k _ h => absurd h (by omega), fun k h h' => absurd h (by omega)⟩, Below.refl _ _⟩
  case round =>
    obtain ⟨i, j, rfl, rfl, rfl, hij, hjn, hin, hbel⟩ := hrel
    have Hin := Lib.hid hin
    have Hbel := Lib.hid hbel
    by_cases hlt : i < j
    · obtain ⟨b, o, q, hb, hc⟩ := (Hx.out.below hbel).at_ (by omega)
      subst q
      have hh : (i + j) / 2 < xs.length := by omega
      obtain ⟨e0, Ax, nx, cx, e1, e2, e3, _⟩ := hc ((i + j) / 2) hh
      obtain ⟨x, hxh⟩ : ∃ x, xs[(i + j) / 2] = x := ⟨_, rfl⟩
      rw [hxh] at e0 e1 e2
      obtain ⟨d, hd⟩ : ∃ d, wrap64 (x.v - v) = d := ⟨_, rfl⟩
      have Hxh := Lib.hid hxh
      have Hd := Lib.hid hd
      have Hxr := Lib.hid (Hr.out.rng x (by rw [← hxh]; exact List.getElem_mem hh))
      clear hc hin hbel hxh hd
      by_cases hd0 : d < 0
      · have f1 : decide (d < 0) = true := by simp; omega
        have Hd0 := Lib.hid hd0
        clear hd0
        go_wp2_with fail
        refine (find1_any x v Ax nx cx d Hd.out wr).mono ?_
        rintro e w1 ⟨rfl, hb1⟩
        have Hb1 := Lib.hid (Hbel.out.trans (hb1.mono Hbel.out.size))
        clear hb1
        go_wp2_with fail
        go_roundg (j - ((i + j) / 2 + 1))
        case measure => omega
        case rel =>
          refine ⟨(i + j) / 2 + 1, j, by simp, rfl, rfl, by omega, hjn, fun v0 v1 => ⟨fun k h hk => ?_, (Hin.out v0 v1).2⟩, Hb1.out⟩
          have q1 : x.v < v := by
            have := Hd.out
            rw [wrap_near Hxr.out ⟨v0, v1⟩] at this
            have := Hd0.out
            omega
          rcases Nat.lt_or_ge k ((i + j) / 2) with h' | h'
          · have := Hr.out.up k ((i + j) / 2) h' hh
            rw [Hxh.out] at this
            omega
          · have : k = (i + j) / 2 := by omega
            subst this
            rw [Hxh.out]; exact q1
      · have f1 : decide (d < 0) = false := by simp; omega
        have Hd0 := Lib.hid hd0
        clear hd0
        go_wp2_with fail
        refine (find1_any x v Ax nx cx d Hd.out wr).mono ?_
        rintro e w1 ⟨rfl, hb1⟩
        have Hb1 := Lib.hid (Hbel.out.trans (hb1.mono Hbel.out.size))
        clear hb1
        go_wp2_with fail
        go_roundg ((i + j) / 2 - i)
        case measure => omega
        case rel =>
          refine ⟨i, (i + j) / 2, rfl, by simp, rfl, by omega, by omega, fun v0 v1 => ⟨(Hin.out v0 v1).1, fun k h hk => ?_⟩, Hb1.out⟩
          have q1 : v ≤ x.v := by
            have := Hd.out
            rw [wrap_near Hxr.out ⟨v0, v1⟩] at this
            have := Hd0.out
            omega
          rcases Nat.lt_or_ge ((i + j) / 2) k with h' | h'
          · have := Hr.out.up ((i + j) / 2) k h' h
            rw [Hxh.out] at this
            omega
          · have : k = (i + j) / 2 := by omega
            subst this
            rw [Hxh.out]; exact q1
    · have hij' : i = j := by omega
      subst hij'
      by_cases hin2 : i < n
      · obtain ⟨b, o, q, hb, hc⟩ := (Hx.out.below hbel).at_ (by omega)
        subst q
        have hh : i < xs.length := by omega
        obtain ⟨e0, Ax, nx, cx, e1, e2, e3, _⟩ := hc i hh
        obtain ⟨x, hxh⟩ : ∃ x, xs[i] = x := ⟨_, rfl⟩
        rw [hxh] at e0 e1 e2
        obtain ⟨d, hd⟩ : ∃ d, wrap64 (x.v - v) = d := ⟨_, rfl⟩
        have hxr := Hr.out.rng x (by rw [← hxh]; exact List.getElem_mem hh)
        have hz := wrap_zero hxr Hv.out
        rw [hd] at hz
        have HP : Hid (∀ w', Below w.heap.size w w' → FindPost xs v w (.returned (.tuple #[.int .i64 (i : Nat), .bool (d == 0)])) w') := Lib.hid fun w' hb' => by
          refine ⟨i, d == 0, rfl, fun h => ⟨hh, ?_⟩, fun h y hy => ?_, hb'⟩
          · rw [hxh]; exact hz.1 (by simpa using h)
          · have hne : x.v ≠ v := fun q => by have := hz.2 q; rw [this] at h; simp at h
            intro hyv
            obtain ⟨k, hk, rfl⟩ := List.getElem_of_mem hy
            have hyr := Hr.out.rng _ hy
            obtain ⟨q1, q2⟩ := hin (by omega) (by omega)
            rcases Nat.lt_trichotomy k i with q | q | q
            · have := q1 k hk q; omega
            · subst q; rw [hxh] at hyv; exact hne hyv
            · have := Hr.out.up i k q hk
              rw [hxh] at this
              have := q2 i hh (Nat.le_refl _)
              rw [hxh] at this
              omega
        have Hd := Lib.hid hd
        have i1 : (0 : Int) ≤ (i : Int) := by omega
        have i2 : (i : Int) < n := by omega
        clear hc hin hbel hxh hd hz hxr
        go_wp2_with fail
        refine (find1_any x v Ax nx cx d Hd.out wr).mono ?_
        rintro e w1 ⟨rfl, hb1⟩
        have Hb1 := Lib.hid (Hbel.out.trans (hb1.mono Hbel.out.size))
        clear hb1
        go_wp2_with fail
        exact bodyPost_ret (v := .tuple #[.int .i64 (i : Nat), .bool (d == 0)]) (by simp [results, Try.results86, go_sem]) rfl (HP.out _ Hb1.out)
      · have HP : Hid (FindPost xs v w (.returned (.tuple #[.int .i64 (i : Nat), .bool false])) wr) := Lib.hid (by
          refine ⟨i, false, rfl, fun h => Bool.noConfusion h, fun h y hy hyv => ?_, hbel⟩
          obtain ⟨k, hk, rfl⟩ := List.getElem_of_mem hy
          have hyr := Hr.out.rng _ hy
          obtain ⟨q1, q2⟩ := hin (by omega) (by omega)
          have := q1 k hk (by omega)
          omega)
        clear hin hbel
        go_wp2_with fail
        exact bodyPost_ret (v := .tuple #[.int .i64 (i : Nat), .bool false]) (by simp [results, Try.results86, go_sem]) rfl HP.out

theorem find_any (v : Int) (A : Option Addr) (n c : Nat) (xs : List UseD) (w : World) (hx : UsesV w w.heap.size A n c xs) (hr : RiseU xs) (hv : -9223372036854775808 ≤ v ∧ v ≤ 9223372036854775807) (hn : n ≤ 1048576) :
    Calls Try.prog 76 #[.slice A n c, .int .i64 v] w (FindPost xs v w) := by
  have hs := search_any v A n c xs w hx hr hv hn
  have Hs := Lib.hid hs
  clear hs hx hr
  go_enter Try.func76, Try.ntmps76
  go_wp2_with fail
  refine Hs.out.mono ?_
  rintro e w1 ⟨i, b, rfl, h1, h2, hb⟩
  have HP : Hid (FindPost xs v w (.returned (.tuple #[.int .i64 (i : Nat), .bool b])) w1) := Lib.hid ⟨i, b, rfl, h1, h2, hb⟩
  clear h1 h2 hb
  go_wp2_with fail
  exact bodyPost_ret (v := .tuple #[.int .i64 (i : Nat), .bool b]) (by simp [results, Try.results76, go_sem]) rfl HP.out

/-- the use of a variable -/
def ofU (xs : List UseD) (v : Int) : TermD := match xs.find? (fun x => x.v == v) with
  | some x => x.t
  | none => ⟨true, 0, []⟩
theorem ofU_some {xs : List UseD} {v : Int} (hr : RiseU xs) {i : Nat} (h : i < xs.length) (hv : xs[i].v = v) : ofU xs v = xs[i].t := by
  have : xs.find? (fun x => x.v == v) = some xs[i] := by
    rw [List.find?_eq_some_iff_getElem]
    refine ⟨by simp [hv], i, h, rfl, fun j hj => ?_⟩
    have := hr.up j i hj h
    simp only [Bool.not_eq_true', beq_eq_false_iff_ne, ne_eq]
    omega
  unfold ofU
  rw [this]
theorem ofU_none {xs : List UseD} {v : Int} (h : ∀ x ∈ xs, x.v ≠ v) : ofU xs v = ⟨true, 0, []⟩ := by
  have : xs.find? (fun x => x.v == v) = none := by
    rw [List.find?_eq_none]
    intro x hx
    simp [h x hx]
  unfold ofU
  rw [this]

theorem ofU_any (v : Int) (A : Option Addr) (n c : Nat) (xs : List UseD) (w : World) (hx : UsesV w w.heap.size A n c xs) (hr : RiseU xs) (hv : -9223372036854775808 ≤ v ∧ v ≤ 9223372036854775807) (hn : n ≤ 1048576) :
    Calls Try.prog 50 #[.slice A n c, .int .i64 v] w (RetT (ofU xs v) w) := by
  have hxl := hx.len
  have n63 : n ≤ 9223372036854775807 := by omega
  have hb0 := below_box (w := w) (Obj.cells #[.bool false, .int .u8 0, .slice none 0 0] 37)
  have hk0 := blk_new w #[.bool false, .int .u8 0, .slice none 0 0] 37
  have hs := find_any v A n c xs (w.alloc (Obj.cells #[.bool false, .int .u8 0, .slice none 0 0] 37)) ((hx.below hb0).more hb0.size) hr hv hn
  have Hs := Lib.hid hs
  have Hb0 := Lib.hid hb0
  have Hk0 := Lib.hid hk0
  have Hx := Lib.hid hx
  have Hr := Lib.hid hr
  clear hs hb0 hk0 hx hr
  go_enter Try.func50, Try.ntmps50
  go_wp2_with fail
  refine Hs.out.mono ?_
  rintro e w1 ⟨i, b, rfl, h1, h2, hb⟩
  have hk1 := Hk0.out.below hb Hk0.out.lt
  have hb1 := Hb0.out.trans (hb.mono Hb0.out.size)
  have f0 := hk1.frozen 0
  have f1 := hk1.frozen 1
  have f2 := hk1.frozen 2
  have c0 : w1.cell? ⟨w.heap.size, 0, none⟩ = some (.bool false) := hk1.cell 0
  have c1 : w1.cell? ⟨w.heap.size, 1, none⟩ = some (.int .u8 0) := hk1.cell 1
  have c2 : w1.cell? ⟨w.heap.size, 2, none⟩ = some (.slice none 0 0) := hk1.cell 2
  have Hk1 := Lib.hid hk1
  have Hb1 := Lib.hid hb1
  cases b with
  | true =>
    obtain ⟨hil, hiv⟩ := h1 rfl
    have hof := ofU_some Hr.out hil hiv
    obtain ⟨bb, oo, q, hbb, hc⟩ := (Hx.out.below hb1).at_ (by omega)
    subst q
    obtain ⟨_, Ax, nx, cx, e1, e2, e3, hrx⟩ := hc i hil
    obtain ⟨⟨xv, nv, tc, vs⟩, hx⟩ : ∃ x, xs[i] = x := ⟨_, rfl⟩
    rw [hx] at e1 e2 hrx hof
    dsimp only at e1 e2 hrx hof
    have Hof := Lib.hid hof
    replace e2 : w1.cell? ⟨bb, oo + i * 4 + 2, none⟩ = some (.int .u8 tc) := e2
    replace e3 : w1.cell? ⟨bb, oo + i * 4 + 3, none⟩ = some (.slice Ax nx cx) := e3
    have i1 : (0 : Int) ≤ (i : Int) := by omega
    have i2 : (i : Int) < n := by omega
    have Hrx := Lib.hid (hrx.more hb1.size)
    clear hc hrx h1 h2 hb hof hx hiv hk1 hb1
    go_wp2_with fail
    rw [Hof.out]
    have hs := Hk1.out.set3 (.bool nv) (.int .u8 tc) (.slice Ax nx cx)
    have hb3 := ((Hb1.out.setCell (p := ⟨w.heap.size, 0, none⟩) (Nat.le_refl _) (.bool nv)).setCell (p := ⟨w.heap.size, 1, none⟩) (Nat.le_refl _) (.int .u8 tc)).setCell (p := ⟨w.heap.size, 2, none⟩) (Nat.le_refl _) (.slice Ax nx cx)
    have hr9 := (Hrx.out.put3 Hk1.out (.bool nv) (.int .u8 tc) (.slice Ax nx cx)).more (B' := (((w1.setCell ⟨w.heap.size, 0, none⟩ (.bool nv)).setCell ⟨w.heap.size, 1, none⟩ (.int .u8 tc)).setCell ⟨w.heap.size, 2, none⟩ (.slice Ax nx cx)).heap.size) (by simp)
    generalize (((w1.setCell ⟨w.heap.size, 0, none⟩ (.bool nv)).setCell ⟨w.heap.size, 1, none⟩ (.int .u8 tc)).setCell ⟨w.heap.size, 2, none⟩ (.slice Ax nx cx)) = W3 at hs hb3 hr9 ⊢
    have d0 : W3.cell? ⟨w.heap.size, 0, none⟩ = some (.bool nv) := hs.cell 0
    have d1 : W3.cell? ⟨w.heap.size, 1, none⟩ = some (.int .u8 tc) := hs.cell 1
    have d2 : W3.cell? ⟨w.heap.size, 2, none⟩ = some (.slice Ax nx cx) := hs.cell 2
    exact bodyPost_ret (v := .agg #[.bool nv, .int .u8 tc, .slice Ax nx cx]) (by simp [results, Try.results50, go_sem, d0, d1, d2]) rfl ⟨_, _, _, rfl, hr9, hb3⟩
  | false =>
    have Hof := Lib.hid (ofU_none (h2 rfl))
    have Hrx : Hid (RdI .i64 w1 w1.heap.size none 0 0 []) := Lib.hid RdI.nil
    clear h1 h2 hb hk1 hb1
    go_wp2_with fail
    rw [Hof.out]
    have hs := Hk1.out.set3 (.bool true) (.int .u8 0) (.slice none 0 0)
    have hb3 := ((Hb1.out.setCell (p := ⟨w.heap.size, 0, none⟩) (Nat.le_refl _) (.bool true)).setCell (p := ⟨w.heap.size, 1, none⟩) (Nat.le_refl _) (.int .u8 0)).setCell (p := ⟨w.heap.size, 2, none⟩) (Nat.le_refl _) (.slice none 0 0)
    have hr9 := (Hrx.out.put3 Hk1.out (.bool true) (.int .u8 0) (.slice none 0 0)).more (B' := (((w1.setCell ⟨w.heap.size, 0, none⟩ (.bool true)).setCell ⟨w.heap.size, 1, none⟩ (.int .u8 0)).setCell ⟨w.heap.size, 2, none⟩ (.slice none 0 0)).heap.size) (by simp)
    generalize (((w1.setCell ⟨w.heap.size, 0, none⟩ (.bool true)).setCell ⟨w.heap.size, 1, none⟩ (.int .u8 0)).setCell ⟨w.heap.size, 2, none⟩ (.slice none 0 0)) = W3 at hs hb3 hr9 ⊢
    have d0 : W3.cell? ⟨w.heap.size, 0, none⟩ = some (.bool true) := hs.cell 0
    have d1 : W3.cell? ⟨w.heap.size, 1, none⟩ = some (.int .u8 0) := hs.cell 1
    have d2 : W3.cell? ⟨w.heap.size, 2, none⟩ = some (.slice none 0 0) := hs.cell 2
    exact bodyPost_ret (v := .agg #[.bool true, .int .u8 0, .slice none 0 0]) (by simp [results, Try.results50, go_sem, d0, d1, d2]) rfl ⟨_, _, _, rfl, hr9, hb3⟩

end Go.Proofs.Ytimlbpjdgnapoaa

/- Slices of slices of uses; the contract of uses.bad. -/
namespace Go.Proofs.Ytimlbpjdgnapoaa
set_option linter.unusedVariables false
set_option linter.unusedSimpArgs false
open Go.RowKit

/-- a slice of slices of uses -/
def LsV (w : World) (B : Nat) (A : Option Addr) (n c : Nat) (ls : List (List UseD)) : Prop :=
  ls.length = n ∧ n ≤ c ∧ c ≤ maxLen ∧ (0 < n → ∃ b off, A = some ⟨b, off, none⟩ ∧ b < B ∧ ∀ i (h : i < ls.length), ∃ Ai ni ci, w.cell? ⟨b, off + i, none⟩ = some (.slice Ai ni ci) ∧ UsesV w B Ai ni ci ls[i])
section
variable {w w' : World} {B B' : Nat} {A : Option Addr} {n c : Nat} {ls : List (List UseD)}
theorem LsV.keep (h : LsV w B A n c ls) (hk : ∀ p : Addr, p.block < B → w'.cell? p = w.cell? p) : LsV w' B A n c ls := by
  obtain ⟨h1, h2, h3, h4⟩ := h
  refine ⟨h1, h2, h3, fun hn => ?_⟩
  obtain ⟨b, off, e, hb, hc⟩ := h4 hn
  refine ⟨b, off, e, hb, fun i hi => ?_⟩
  obtain ⟨Ai, ni, ci, e1, e2⟩ := hc i hi
  exact ⟨Ai, ni, ci, (hk _ hb).trans e1, e2.keep hk⟩
theorem LsV.more (h : LsV w B A n c ls) (hB : B ≤ B') : LsV w B' A n c ls := by
  obtain ⟨h1, h2, h3, h4⟩ := h
  refine ⟨h1, h2, h3, fun hn => ?_⟩
  obtain ⟨b, off, e, hb, hc⟩ := h4 hn
  refine ⟨b, off, e, by omega, fun i hi => ?_⟩
  obtain ⟨Ai, ni, ci, e1, e2⟩ := hc i hi
  exact ⟨Ai, ni, ci, e1, e2.more hB⟩
theorem LsV.below (h : LsV w B A n c ls) (hb : Below B w w') : LsV w' B A n c ls := h.keep fun _ hp => hb.cell hp
theorem LsV.len (h : LsV w B A n c ls) : ls.length = n := h.1
theorem LsV.at_ (h : LsV w B A n c ls) (hn : 0 < n) : ∃ b off, A = some ⟨b, off, none⟩ ∧ b < B ∧ ∀ i (h : i < ls.length), ∃ Ai ni ci, w.cell? ⟨b, off + i, none⟩ = some (.slice Ai ni ci) ∧ UsesV w B Ai ni ci ls[i] := h.2.2.2 hn
end

theorem bad1_any (A : Option Addr) (n c : Nat) (xs : List UseD) (m : Bool) (hm : mayU xs = m) (w : World) (hx : UsesV w w.heap.size A n c xs) :
    Calls Try.prog 81 #[.slice A n c] w fun e w' => e = .returned (.bool (!m)) ∧ Below w.heap.size w w' := by
  have hM := usesMay_any A n c xs w hx
  cases m with
  | true =>
    rw [mayUE_yes hm] at hM
    have HM := Lib.hid hM
    clear hM hx hm
    go_enter Try.func81, Try.ntmps81
    go_wp2_with fail
    refine HM.out.mono ?_; rintro e w1 ⟨rfl, hb1⟩
    go_wp2_with fail
    go_ret
    exact ⟨rfl, hb1⟩
  | false =>
    rw [mayUE_no hm] at hM
    have HM := Lib.hid hM
    clear hM hx hm
    go_enter Try.func81, Try.ntmps81
    go_wp2_with fail
    refine HM.out.mono ?_; rintro e w1 ⟨rfl, hb1⟩
    go_wp2_with fail
    go_ret
    exact ⟨rfl, hb1⟩

set_option maxHeartbeats 1000000 in
theorem indexU_any (A : Option Addr) (n c : Nat) (ls : List (List UseD)) (w : World) (hr : LsV w w.heap.size A n c ls) :
    Calls Try.prog 99 #[.slice A n c, .func (.func 81) #[] #[]] w fun e w' => ∃ z : Int, e = .returned (.int .i64 z) ∧ decide (z ≥ 0) = ls.any (fun x => !mayU x) ∧ Below w.heap.size w w' := by
  have hlen := hr.len
  have n63 : n ≤ 9223372036854775807 := Nat.le_trans hr.2.1 hr.2.2.1
  have Hr := Lib.hid hr
  clear hr
  go_enter Try.func99, Try.ntmps99
  go_wp2_with fail
  go_loopg [5, 8] n (fun g _ i wr => ∃ k : Nat, k ≤ n ∧ g = n - k ∧ i = .int .i64 k ∧ (∀ j (h : j < ls.length), j < k → mayU ls[j] = true) ∧ Below w.heap.size w wr)
  case atStart => exact ⟨0, Nat.zero_le _, rfl, rfl, fun j _ h => absurd h (by omega), Below.refl _ _⟩
  case round =>
    obtain ⟨k, hk, rfl, rfl, hno, hbel⟩ := hrel
    have Hno := Lib.hid hno
    have Hbel := Lib.hid hbel
    clear hno
    by_cases hlt : k < n
    · obtain ⟨b', off, rfl, hb', hcell⟩ := (Hr.out.below hbel).at_ (by omega)
      have hk' : k < ls.length := by omega
      obtain ⟨Ai, ni, ci, e0, hu⟩ := hcell k hk'
      have Hu := Lib.hid (hu.more hbel.size)
      have i1 : (0 : Int) ≤ (k : Int) := by omega
      have i2 : (k : Int) < n := by omega
      clear hcell hu hbel
      cases hm : mayU ls[k]
      · have HF : Hid (ls.any (fun x => !mayU x) = true) := List.any_eq_true.2 ⟨_, List.getElem_mem hk', by rw [hm]; rfl⟩
        have Hm := Lib.hid hm
        clear hm
        go_wp2_with fail
        refine (bad1_any Ai ni ci ls[k] false Hm.out wr Hu.out).mono ?_; rintro e w1 ⟨rfl, hb1⟩
        have hw1 := Hbel.out.trans (hb1.mono Hbel.out.size)
        clear hb1
        go_wp2_with fail
        go_ret
        exact ⟨_, rfl, by rw [HF.out]; simp, hw1⟩
      · have Hm := Lib.hid hm
        clear hm
        go_wp2_with fail
        refine (bad1_any Ai ni ci ls[k] true Hm.out wr Hu.out).mono ?_; rintro e w1 ⟨rfl, hb1⟩
        have hw1 := Hbel.out.trans (hb1.mono Hbel.out.size)
        clear hb1
        go_wp2_with fail
        go_roundg (n - (k + 1))
        case measure => omega
        case rel =>
          refine ⟨k + 1, by omega, rfl, by go_num, fun j hj hjk => ?_, hw1⟩
          rcases Nat.lt_or_ge j k with h | h
          · exact Hno.out j hj h
          · have : j = k := by omega
            subst this
            exact Hm.out
    · have HF : Hid (ls.any (fun x => !mayU x) = false) := by
        show _ = _
        rw [List.any_eq_false]
        intro x hx
        obtain ⟨j, hj, rfl⟩ := List.getElem_of_mem hx
        rw [Hno.out j hj (by omega)]; simp
      clear hbel
      go_wp2_with fail
      go_ret
      exact ⟨-1, rfl, by rw [HF.out]; simp, Hbel.out⟩

theorem bad_any (A : Option Addr) (n c : Nat) (ls : List (List UseD)) (w : World) (hr : LsV w w.heap.size A n c ls) :
    Calls Try.prog 68 #[.slice A n c] w fun e w' => e = .returned (.bool (ls.any (fun x => !mayU x))) ∧ Below w.heap.size w w' := by
  have hc : Calls Try.prog 80 #[.slice A n c, .func (.func 81) #[] #[]] w fun e w' => e = .returned (.bool (ls.any (fun x => !mayU x))) ∧ Below w.heap.size w w' := by
    go_enter Try.func80, Try.ntmps80
    go_wp2_with fail
    refine (indexU_any A n c ls _ hr).mono ?_; rintro e w1 ⟨z, rfl, hz, hb1⟩
    have HZ := Lib.hid hz
    clear hz
    go_wp2_with fail
    go_ret
    exact ⟨by rw [← HZ.out]; rfl, hb1⟩
  have Hc := Lib.hid hc
  clear hc hr
  obtain ⟨m, hm⟩ : ∃ m, ls.any (fun x => !mayU x) = m := ⟨_, rfl⟩
  rw [hm] at Hc ⊢
  clear hm
  go_enter Try.func68, Try.ntmps68
  go_wp2_with fail
  refine Hc.out.mono ?_; rintro e w1 ⟨rfl, hb1⟩
  go_wp2_with fail
  go_ret
  exact ⟨rfl, hb1⟩

end Go.Proofs.Ytimlbpjdgnapoaa

