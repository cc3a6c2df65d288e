/- Uses in memory; the contract of uses.May. -/
import Derived.Test.YtimlbpjdgnapoaaTermA
import Derived.Test.YtimlbpjdgnapoaaMem
import Derived.BigQuiet
import Derived.Lib.QuietBelow
import Derived.Deep.QuietTactic
namespace Go.Proofs.Ytimlbpjdgnapoaa
set_option linter.unusedVariables false
set_option linter.unusedSimpArgs false
open Go.RowKit

/-- a variable's use -/
structure UseD where
  v : Int
  t : TermD
/-- a use in four cells -/
def UseAt (w : World) (B b off : Nat) (x : UseD) : Prop := w.cell? ⟨b, off, none⟩ = some (.int .i64 x.v) ∧ TermAt w B b (off + 1) x.t
/-- a slice of uses -/
def UsesV (w : World) (B : Nat) (A : Option Addr) (n c : Nat) (xs : List UseD) : Prop :=
  xs.length = n ∧ n ≤ c ∧ c ≤ maxLen ∧ (0 < n → ∃ b off, A = some ⟨b, off, none⟩ ∧ b < B ∧ ∀ i (h : i < xs.length), UseAt w B b (off + i * 4) xs[i])
section
variable {w w' : World} {B B' : Nat} {A : Option Addr} {n c : Nat} {xs : List UseD}
theorem UseAt.keep {b off : Nat} {x : UseD} (h : UseAt w B b off x) (hb : b < B) (hk : ∀ p : Addr, p.block < B → w'.cell? p = w.cell? p) : UseAt w' B b off x := ⟨(hk _ hb).trans h.1, h.2.keep hb hk⟩
theorem UseAt.more {b off : Nat} {x : UseD} (h : UseAt w B b off x) (hB : B ≤ B') : UseAt w B' b off x := ⟨h.1, h.2.more hB⟩
theorem UsesV.keep (h : UsesV w B A n c xs) (hk : ∀ p : Addr, p.block < B → w'.cell? p = w.cell? p) : UsesV w' B A n c xs := by
  obtain ⟨h1, h2, h3, h4⟩ := h
  refine ⟨h1, h2, h3, fun hn => ?_⟩
  obtain ⟨b, off, e, hb, hc⟩ := h4 hn
  exact ⟨b, off, e, hb, fun i hi => (hc i hi).keep hb hk⟩
theorem UsesV.more (h : UsesV w B A n c xs) (hB : B ≤ B') : UsesV w B' A n c xs := by
  obtain ⟨h1, h2, h3, h4⟩ := h
  refine ⟨h1, h2, h3, fun hn => ?_⟩
  obtain ⟨b, off, e, hb, hc⟩ := h4 hn
  exact ⟨b, off, e, by omega, fun i hi => (hc i hi).more hB⟩
theorem UsesV.below (h : UsesV w B A n c xs) (hb : Below B w w') : UsesV w' B A n c xs := h.keep fun _ hp => hb.cell hp
theorem UsesV.nil : UsesV w B none 0 0 [] := ⟨rfl, Nat.le_refl _, Nat.zero_le _, fun h => absurd h (by omega)⟩
theorem UsesV.len (h : UsesV w B A n c xs) : xs.length = n := h.1
theorem UsesV.at_ (h : UsesV w B A n c xs) (hn : 0 < n) : ∃ b off, A = some ⟨b, off, none⟩ ∧ b < B ∧ ∀ i (h : i < xs.length), UseAt w B b (off + i * 4) xs[i] := h.2.2.2 hn
end

/-- may a use stand behind variable p? -/
def mayS (p : Int) (x : UseD) : Bool := decide (0 ≤ x.v) && decide (x.v < 1048576) && decide (p < x.v) && !x.t.never && mayB x.t
def mayFrom : Int → List UseD → Bool
  | _, [] => true
  | p, x :: r => mayS p x && mayFrom x.v r
def mayU (l : List UseD) : Bool := mayFrom (-1) l
def mayUE (l : List UseD) : Int := if mayU l then 0 else 2
theorem mayUE_yes {l : List UseD} (h : mayU l = true) : mayUE l = 0 := by simp [mayUE, h]
theorem mayUE_no {l : List UseD} (h : mayU l = false) : mayUE l = 2 := by simp [mayUE, h]
theorem term_at {v : Value} {t : TermD} {w : World} {B : Nat} {x : Int} (hx : mayE t = x) (hv : TermV w B v t) (hB : B ≤ w.heap.size) :
    Calls Try.prog 42 #[v] w fun e w' => e = .returned (.int .i64 x) ∧ Below w.heap.size w w' := by
  rw [← hx]; exact may_any v t w B hv hB

set_option maxRecDepth 100000 in
set_option maxHeartbeats 2000000 in
theorem usesMay_any (A : Option Addr) (n c : Nat) (xs : List UseD) (w : World) (hx : UsesV w w.heap.size A n c xs) :
    Calls Try.prog 16 #[.slice A n c] w fun e w' => e = .returned (.int .i64 (mayUE xs)) ∧ Below w.heap.size w w' := by
  have hxl := hx.len
  have n63 : n ≤ 9223372036854775807 := Nat.le_trans hx.2.1 hx.2.2.1
  have Hx := Lib.hid hx
  clear hx
  go_enter Try.func16, Try.ntmps16
  go_wp2_with fail
  go_loopg [7] n (fun gh i wr => ∃ (k : Nat) (p : Int), k ≤ n ∧ gh = n - k ∧ i = .int .i64 (k : Nat) ∧ mayU xs = mayFrom p (xs.drop k) ∧ (k = 0 → p = -1) ∧ (∀ (k' : Nat) (h : k' < xs.length), k = k' + 1 → p = xs[k'].v) ∧ Below w.heap.size w wr)
  case atStart => exact ⟨0, -1, Nat.zero_le _, rfl, rfl, rfl, fun _ => rfl, fun k' _ h => absurd h (by omega), Below.refl _ _⟩
  case round =>
    obtain ⟨k, p, hk, rfl, rfl, hmay, hp0, hp1, hbel⟩ := hrel
    have Hmay := Lib.hid hmay
    have Hbel := Lib.hid hbel
    by_cases hkn : k < n
    · have hk' : k < xs.length := by omega
      obtain ⟨b, o, q, hb, hc⟩ := (Hx.out.below hbel).at_ (by omega)
      subst q
      obtain ⟨e0, Ax, nx, cx, e1, e2, e3, hrx⟩ := hc k hk'
      have hdrop : xs.drop k = xs[k] :: xs.drop (k + 1) := List.drop_eq_getElem_cons hk'
      have Hdrop := Lib.hid hdrop
      have hprev : ∀ k', k = k' + 1 → ∃ q : Int, wr.cell? ⟨b, o + k' * 4, none⟩ = some (.int .i64 q) ∧ p = q := fun k' e => by
        have hk2 : k' < xs.length := by omega
        exact ⟨_, (hc k' hk2).1, hp1 k' hk2 e⟩
      have Hprev := Lib.hid hprev
      have Hp0 := Lib.hid hp0
      obtain ⟨⟨xv, nv, tc, vs⟩, hxk⟩ : ∃ x, xs[k] = x := ⟨_, rfl⟩
      rw [hxk] at e0 e1 e2 hrx hdrop
      have hno : mayS p ⟨xv, ⟨nv, tc, vs⟩⟩ = false → 2 = mayUE xs := fun h => by
        rw [mayUE_no]
        rw [hmay, hdrop]
        simp [mayFrom, h]
      have Hno := Lib.hid hno
      have Hxk := Lib.hid hxk
      have Hdrop := Lib.hid hdrop
      dsimp only at e0 e1 e2 hrx
      replace e2 : wr.cell? ⟨b, o + k * 4 + 2, none⟩ = some (.int .u8 tc) := e2
      replace e3 : wr.cell? ⟨b, o + k * 4 + 3, none⟩ = some (.slice Ax nx cx) := e3
      have i1 : (0 : Int) ≤ (k : Int) := by omega
      have i2 : (k : Int) < n := by omega
      have hX := blk_new wr #[.int .i64 xv, .bool nv, .int .u8 tc, .slice Ax nx cx] 41
      have hbx := below_box (w := wr) (Obj.cells #[.int .i64 xv, .bool nv, .int .u8 tc, .slice Ax nx cx] 41)
      have HX := Lib.hid hX
      have Hb1 := Lib.hid (hbel.trans (hbx.mono hbel.size))
      have Hq : Hid (TermV (wr.alloc (Obj.cells #[.int .i64 xv, .bool nv, .int .u8 tc, .slice Ax nx cx] 41)) (wr.alloc (Obj.cells #[.int .i64 xv, .bool nv, .int .u8 tc, .slice Ax nx cx] 41)).heap.size (.agg #[.bool nv, .int .u8 tc, .slice Ax nx cx]) ⟨nv, tc, vs⟩) := Lib.hid ⟨Ax, nx, cx, rfl, ((hrx.more hbel.size).below hbx).more hbx.size⟩
      have hsm : ∀ p, mayS p ⟨xv, ⟨nv, tc, vs⟩⟩ = (decide (0 ≤ xv) && decide (xv < 1048576) && decide (p < xv) && !nv && mayB ⟨nv, tc, vs⟩) := fun _ => rfl
      clear hc hrx hdrop hno hprev hp0 hp1 hmay hX hbx hbel hxk
      by_cases hv0 : xv < 0
      · have f1 : decide (xv < 0) = true := by simp; omega
        have HF : Hid (2 = mayUE xs) := Lib.hid (Hno.out (by rw [hsm]; simp [Int.not_le.2 hv0]))
        clear hsm hv0
        go_wp2_with fail
        generalize hW : wr.alloc (Obj.cells #[.int .i64 xv, .bool nv, .int .u8 tc, .slice Ax nx cx] 41) = w1 at HX Hb1 Hq HX ⊢
        clear hW
        have kx0 := fun d os => cell_regrown (HX.out.cell 0) d os
        have kx1 := fun d os => cell_regrown (HX.out.cell 1) d os
        have kx2 := fun d os => cell_regrown (HX.out.cell 2) d os
        have kx3 := fun d os => cell_regrown (HX.out.cell 3) d os
        have hq : ∀ d os, Calls Try.prog 42 #[.agg #[.bool nv, .int .u8 tc, .slice Ax nx cx]] («Sort».grow (redrawn w1 d) os) (fun e w' => e = .returned (.int .i64 (mayE ⟨nv, tc, vs⟩)) ∧ Below («Sort».grow (redrawn w1 d) os).heap.size («Sort».grow (redrawn w1 d) os) w') := fun d os =>
          may_any _ ⟨nv, tc, vs⟩ _ _ ((Hq.out.below (below_regrown w1 d os)).more (below_regrown w1 d os).size) (Nat.le_refl _)
        replace hq := Lib.hid hq
        skip
        refine wp_region_quiet_below (by kernel_rfl) (by kernel_rfl) ?_
        repeat (go_big_quiet_step ((first | (go_at_call 42; exact Calls.regrown_of (hq.out _ _)))))
        refine wpQuiet_nil ?_
        intro _ hw'
        obtain ⟨⟨dq, osq⟩, hw''⟩ := hw'
        subst hw''
        have Hb2 := Lib.hid (Hb1.out.trans ((below_regrown w1 dq osq).mono Hb1.out.size))
        clear kx0 kx1 kx2 kx3 hq
        go_wp2_with fail
        go_ret
        exact ⟨ret_int HF.out, Hb2.out⟩
      · have f1 : decide (xv < 0) = false := by simp; omega
        by_cases hv1 : xv ≥ 1048576
        · have f2 : decide (xv ≥ 1048576) = true := by simp; omega
          have HF : Hid (2 = mayUE xs) := Lib.hid (Hno.out (by rw [hsm]; simp [Int.not_lt.2 hv1]))
          clear hsm hv0 hv1
          go_wp2_with fail
          generalize hW : wr.alloc (Obj.cells #[.int .i64 xv, .bool nv, .int .u8 tc, .slice Ax nx cx] 41) = w1 at HX Hb1 Hq HX ⊢
          clear hW
          have kx0 := fun d os => cell_regrown (HX.out.cell 0) d os
          have kx1 := fun d os => cell_regrown (HX.out.cell 1) d os
          have kx2 := fun d os => cell_regrown (HX.out.cell 2) d os
          have kx3 := fun d os => cell_regrown (HX.out.cell 3) d os
          have hq : ∀ d os, Calls Try.prog 42 #[.agg #[.bool nv, .int .u8 tc, .slice Ax nx cx]] («Sort».grow (redrawn w1 d) os) (fun e w' => e = .returned (.int .i64 (mayE ⟨nv, tc, vs⟩)) ∧ Below («Sort».grow (redrawn w1 d) os).heap.size («Sort».grow (redrawn w1 d) os) w') := fun d os =>
            may_any _ ⟨nv, tc, vs⟩ _ _ ((Hq.out.below (below_regrown w1 d os)).more (below_regrown w1 d os).size) (Nat.le_refl _)
          replace hq := Lib.hid hq
          skip
          refine wp_region_quiet_below (by kernel_rfl) (by kernel_rfl) ?_
          repeat (go_big_quiet_step ((first | (go_at_call 42; exact Calls.regrown_of (hq.out _ _)))))
          refine wpQuiet_nil ?_
          intro _ hw'
          obtain ⟨⟨dq, osq⟩, hw''⟩ := hw'
          subst hw''
          have Hb2 := Lib.hid (Hb1.out.trans ((below_regrown w1 dq osq).mono Hb1.out.size))
          clear kx0 kx1 kx2 kx3 hq
          go_wp2_with fail
          go_ret
          exact ⟨ret_int HF.out, Hb2.out⟩
        · have f2 : decide (xv ≥ 1048576) = false := by simp; omega
          cases k with
          | zero =>
            obtain rfl : p = -1 := Hp0.out rfl
            simp only [Nat.zero_mul, Nat.add_zero] at e0 e1 e2 e3
            have hpx : decide (-1 < xv) = true := by simp; omega
            cases nv with
            | true =>
              have HF : Hid (2 = mayUE xs) := Lib.hid (Hno.out (by rw [hsm]; simp))
              clear hsm hv0 hv1 hpx
              go_wp2_with fail
              generalize hW : wr.alloc (Obj.cells #[.int .i64 xv, .bool true, .int .u8 tc, .slice Ax nx cx] 41) = w1 at HX Hb1 Hq HX ⊢
              clear hW
              have kx0 := fun d os => cell_regrown (HX.out.cell 0) d os
              have kx1 := fun d os => cell_regrown (HX.out.cell 1) d os
              have kx2 := fun d os => cell_regrown (HX.out.cell 2) d os
              have kx3 := fun d os => cell_regrown (HX.out.cell 3) d os
              have hq : ∀ d os, Calls Try.prog 42 #[.agg #[.bool true, .int .u8 tc, .slice Ax nx cx]] («Sort».grow (redrawn w1 d) os) (fun e w' => e = .returned (.int .i64 (mayE ⟨true, tc, vs⟩)) ∧ Below («Sort».grow (redrawn w1 d) os).heap.size («Sort».grow (redrawn w1 d) os) w') := fun d os =>
                may_any _ ⟨true, tc, vs⟩ _ _ ((Hq.out.below (below_regrown w1 d os)).more (below_regrown w1 d os).size) (Nat.le_refl _)
              replace hq := Lib.hid hq
              skip
              refine wp_region_quiet_below (by kernel_rfl) (by kernel_rfl) ?_
              repeat (go_big_quiet_step ((first | (go_at_call 42; exact Calls.regrown_of (hq.out _ _)))))
              refine wpQuiet_nil ?_
              intro _ hw'
              obtain ⟨⟨dq, osq⟩, hw''⟩ := hw'
              subst hw''
              have Hb2 := Lib.hid (Hb1.out.trans ((below_regrown w1 dq osq).mono Hb1.out.size))
              clear kx0 kx1 kx2 kx3 hq
              go_wp2_with fail
              go_ret
              exact ⟨ret_int HF.out, Hb2.out⟩
            | false =>
              cases hm : mayB ⟨false, tc, vs⟩ with
              | false =>
                have HM := Lib.hid (mayE_no hm)
                have HF : Hid (2 = mayUE xs) := Lib.hid (Hno.out (by rw [hsm, hm]; simp))
                clear hsm hv0 hv1 hpx hm
                go_wp2_with fail
                generalize hW : wr.alloc (Obj.cells #[.int .i64 xv, .bool false, .int .u8 tc, .slice Ax nx cx] 41) = w1 at HX Hb1 Hq HX ⊢
                clear hW
                have kx0 := fun d os => cell_regrown (HX.out.cell 0) d os
                have kx1 := fun d os => cell_regrown (HX.out.cell 1) d os
                have kx2 := fun d os => cell_regrown (HX.out.cell 2) d os
                have kx3 := fun d os => cell_regrown (HX.out.cell 3) d os
                have hq : ∀ d os, Calls Try.prog 42 #[.agg #[.bool false, .int .u8 tc, .slice Ax nx cx]] («Sort».grow (redrawn w1 d) os) (fun e w' => e = .returned (.int .i64 (mayE ⟨false, tc, vs⟩)) ∧ Below («Sort».grow (redrawn w1 d) os).heap.size («Sort».grow (redrawn w1 d) os) w') := fun d os =>
                  may_any _ ⟨false, tc, vs⟩ _ _ ((Hq.out.below (below_regrown w1 d os)).more (below_regrown w1 d os).size) (Nat.le_refl _)
                replace hq := Lib.hid hq
                skip; rw [HM.out] at hq
                refine wp_region_quiet_below (by kernel_rfl) (by kernel_rfl) ?_
                repeat (go_big_quiet_step ((first | (go_at_call 42; exact Calls.regrown_of (hq.out _ _)))))
                refine wpQuiet_nil ?_
                intro _ hw'
                obtain ⟨⟨dq, osq⟩, hw''⟩ := hw'
                subst hw''
                have Hb2 := Lib.hid (Hb1.out.trans ((below_regrown w1 dq osq).mono Hb1.out.size))
                clear kx0 kx1 kx2 kx3 hq
                go_wp2_with fail
                go_ret
                exact ⟨ret_int HF.out, Hb2.out⟩
              | true =>
                have HM := Lib.hid (mayE_yes hm)
                have HY : Hid (∀ q, decide (q < xv) = true → mayS q ⟨xv, ⟨false, tc, vs⟩⟩ = true) := Lib.hid fun q h => by rw [hsm, hm, h]; simp; omega
                have Hpx := Lib.hid hpx
                clear hsm hv0 hv1 hpx hm
                go_wp2_with fail
                generalize hW : wr.alloc (Obj.cells #[.int .i64 xv, .bool false, .int .u8 tc, .slice Ax nx cx] 41) = w1 at HX Hb1 Hq HX ⊢
                clear hW
                have kx0 := fun d os => cell_regrown (HX.out.cell 0) d os
                have kx1 := fun d os => cell_regrown (HX.out.cell 1) d os
                have kx2 := fun d os => cell_regrown (HX.out.cell 2) d os
                have kx3 := fun d os => cell_regrown (HX.out.cell 3) d os
                have hq : ∀ d os, Calls Try.prog 42 #[.agg #[.bool false, .int .u8 tc, .slice Ax nx cx]] («Sort».grow (redrawn w1 d) os) (fun e w' => e = .returned (.int .i64 (mayE ⟨false, tc, vs⟩)) ∧ Below («Sort».grow (redrawn w1 d) os).heap.size («Sort».grow (redrawn w1 d) os) w') := fun d os =>
                  may_any _ ⟨false, tc, vs⟩ _ _ ((Hq.out.below (below_regrown w1 d os)).more (below_regrown w1 d os).size) (Nat.le_refl _)
                replace hq := Lib.hid hq
                skip; rw [HM.out] at hq
                refine wp_region_quiet_below (by kernel_rfl) (by kernel_rfl) ?_
                repeat (go_big_quiet_step ((first | (go_at_call 42; exact Calls.regrown_of (hq.out _ _)))))
                refine wpQuiet_nil ?_
                intro _ hw'
                obtain ⟨⟨dq, osq⟩, hw''⟩ := hw'
                subst hw''
                have Hb2 := Lib.hid (Hb1.out.trans ((below_regrown w1 dq osq).mono Hb1.out.size))
                clear kx0 kx1 kx2 kx3 hq
                go_wp2_with fail
                go_roundg (n - ((0) + 1))
                case measure => omega
                case rel => exact ⟨(0) + 1, xv, by omega, rfl, by simp, by rw [Hmay.out, Hdrop.out]; simp [mayFrom, HY.out _ Hpx.out], fun h => absurd h (by omega), fun k' h e => (by cases e; rw [Hxk.out]), Hb2.out⟩
          | succ k' =>
            obtain ⟨q, hq0, hpq⟩ := Hprev.out k' rfl
            subst hpq
            have g1 : decide ((k' : Int) + 1 > 0) = true := by first | (simp; done) | (simp; omega)
            have i4 : (0 : Int) ≤ (k' : Int) + 1 := by omega
            have i5 : (k' : Int) + 1 < n := by omega
            have i6 : (0 : Int) ≤ (k' : Int) := by omega
            have i7 : (k' : Int) < n := by omega
            have Hq1 := Lib.hid ((World.cell?_alloc_lt wr (Obj.cells #[.int .i64 xv, .bool nv, .int .u8 tc, .slice Ax nx cx] 41) ⟨b, o + k' * 4, none⟩ (block_lt_of_cell hq0)).trans hq0)
            clear hq0
            by_cases hvp : xv ≤ p
            · have f3 : decide (xv ≤ p) = true := by simp; omega
              have HF : Hid (2 = mayUE xs) := Lib.hid (Hno.out (by rw [hsm]; simp [Int.not_lt.2 hvp]))
              clear hsm hv0 hv1 hvp
              go_wp2_with fail
              generalize hW : wr.alloc (Obj.cells #[.int .i64 xv, .bool nv, .int .u8 tc, .slice Ax nx cx] 41) = w1 at HX Hb1 Hq Hq1 ⊢
              clear hW
              have kx0 := fun d os => cell_regrown (HX.out.cell 0) d os
              have kx1 := fun d os => cell_regrown (HX.out.cell 1) d os
              have kx2 := fun d os => cell_regrown (HX.out.cell 2) d os
              have kx3 := fun d os => cell_regrown (HX.out.cell 3) d os
              have hq : ∀ d os, Calls Try.prog 42 #[.agg #[.bool nv, .int .u8 tc, .slice Ax nx cx]] («Sort».grow (redrawn w1 d) os) (fun e w' => e = .returned (.int .i64 (mayE ⟨nv, tc, vs⟩)) ∧ Below («Sort».grow (redrawn w1 d) os).heap.size («Sort».grow (redrawn w1 d) os) w') := fun d os =>
                may_any _ ⟨nv, tc, vs⟩ _ _ ((Hq.out.below (below_regrown w1 d os)).more (below_regrown w1 d os).size) (Nat.le_refl _)
              replace hq := Lib.hid hq
              have kx4 := fun d os => cell_regrown Hq1.out d os
              refine wp_region_quiet_below (by kernel_rfl) (by kernel_rfl) ?_
              repeat (go_big_quiet_step ((first | (go_at_call 42; exact Calls.regrown_of (hq.out _ _)))))
              refine wpQuiet_nil ?_
              intro _ hw'
              obtain ⟨⟨dq, osq⟩, hw''⟩ := hw'
              subst hw''
              have Hb2 := Lib.hid (Hb1.out.trans ((below_regrown w1 dq osq).mono Hb1.out.size))
              clear kx0 kx1 kx2 kx3 hq
              go_wp2_with fail
              go_ret
              exact ⟨ret_int HF.out, Hb2.out⟩
            · have f3 : decide (xv ≤ p) = false := by simp; omega
              have hpx : decide (p < xv) = true := by simp; omega
              cases nv with
              | true =>
                have HF : Hid (2 = mayUE xs) := Lib.hid (Hno.out (by rw [hsm]; simp))
                clear hsm hv0 hv1 hpx
                go_wp2_with fail
                generalize hW : wr.alloc (Obj.cells #[.int .i64 xv, .bool true, .int .u8 tc, .slice Ax nx cx] 41) = w1 at HX Hb1 Hq Hq1 ⊢
                clear hW
                have kx0 := fun d os => cell_regrown (HX.out.cell 0) d os
                have kx1 := fun d os => cell_regrown (HX.out.cell 1) d os
                have kx2 := fun d os => cell_regrown (HX.out.cell 2) d os
                have kx3 := fun d os => cell_regrown (HX.out.cell 3) d os
                have hq : ∀ d os, Calls Try.prog 42 #[.agg #[.bool true, .int .u8 tc, .slice Ax nx cx]] («Sort».grow (redrawn w1 d) os) (fun e w' => e = .returned (.int .i64 (mayE ⟨true, tc, vs⟩)) ∧ Below («Sort».grow (redrawn w1 d) os).heap.size («Sort».grow (redrawn w1 d) os) w') := fun d os =>
                  may_any _ ⟨true, tc, vs⟩ _ _ ((Hq.out.below (below_regrown w1 d os)).more (below_regrown w1 d os).size) (Nat.le_refl _)
                replace hq := Lib.hid hq
                have kx4 := fun d os => cell_regrown Hq1.out d os
                refine wp_region_quiet_below (by kernel_rfl) (by kernel_rfl) ?_
                repeat (go_big_quiet_step ((first | (go_at_call 42; exact Calls.regrown_of (hq.out _ _)))))
                refine wpQuiet_nil ?_
                intro _ hw'
                obtain ⟨⟨dq, osq⟩, hw''⟩ := hw'
                subst hw''
                have Hb2 := Lib.hid (Hb1.out.trans ((below_regrown w1 dq osq).mono Hb1.out.size))
                clear kx0 kx1 kx2 kx3 hq
                go_wp2_with fail
                go_ret
                exact ⟨ret_int HF.out, Hb2.out⟩
              | false =>
                cases hm : mayB ⟨false, tc, vs⟩ with
                | false =>
                  have HM := Lib.hid (mayE_no hm)
                  have HF : Hid (2 = mayUE xs) := Lib.hid (Hno.out (by rw [hsm, hm]; simp))
                  clear hsm hv0 hv1 hpx hm
                  go_wp2_with fail
                  generalize hW : wr.alloc (Obj.cells #[.int .i64 xv, .bool false, .int .u8 tc, .slice Ax nx cx] 41) = w1 at HX Hb1 Hq Hq1 ⊢
                  clear hW
                  have kx0 := fun d os => cell_regrown (HX.out.cell 0) d os
                  have kx1 := fun d os => cell_regrown (HX.out.cell 1) d os
                  have kx2 := fun d os => cell_regrown (HX.out.cell 2) d os
                  have kx3 := fun d os => cell_regrown (HX.out.cell 3) d os
                  have hq : ∀ d os, Calls Try.prog 42 #[.agg #[.bool false, .int .u8 tc, .slice Ax nx cx]] («Sort».grow (redrawn w1 d) os) (fun e w' => e = .returned (.int .i64 (mayE ⟨false, tc, vs⟩)) ∧ Below («Sort».grow (redrawn w1 d) os).heap.size («Sort».grow (redrawn w1 d) os) w') := fun d os =>
                    may_any _ ⟨false, tc, vs⟩ _ _ ((Hq.out.below (below_regrown w1 d os)).more (below_regrown w1 d os).size) (Nat.le_refl _)
                  replace hq := Lib.hid hq
                  have kx4 := fun d os => cell_regrown Hq1.out d os; rw [HM.out] at hq
                  refine wp_region_quiet_below (by kernel_rfl) (by kernel_rfl) ?_
                  repeat (go_big_quiet_step ((first | (go_at_call 42; exact Calls.regrown_of (hq.out _ _)))))
                  refine wpQuiet_nil ?_
                  intro _ hw'
                  obtain ⟨⟨dq, osq⟩, hw''⟩ := hw'
                  subst hw''
                  have Hb2 := Lib.hid (Hb1.out.trans ((below_regrown w1 dq osq).mono Hb1.out.size))
                  clear kx0 kx1 kx2 kx3 hq
                  go_wp2_with fail
                  go_ret
                  exact ⟨ret_int HF.out, Hb2.out⟩
                | true =>
                  have HM := Lib.hid (mayE_yes hm)
                  have HY : Hid (∀ q, decide (q < xv) = true → mayS q ⟨xv, ⟨false, tc, vs⟩⟩ = true) := Lib.hid fun q h => by rw [hsm, hm, h]; simp; omega
                  have Hpx := Lib.hid hpx
                  clear hsm hv0 hv1 hpx hm
                  go_wp2_with fail
                  generalize hW : wr.alloc (Obj.cells #[.int .i64 xv, .bool false, .int .u8 tc, .slice Ax nx cx] 41) = w1 at HX Hb1 Hq Hq1 ⊢
                  clear hW
                  have kx0 := fun d os => cell_regrown (HX.out.cell 0) d os
                  have kx1 := fun d os => cell_regrown (HX.out.cell 1) d os
                  have kx2 := fun d os => cell_regrown (HX.out.cell 2) d os
                  have kx3 := fun d os => cell_regrown (HX.out.cell 3) d os
                  have hq : ∀ d os, Calls Try.prog 42 #[.agg #[.bool false, .int .u8 tc, .slice Ax nx cx]] («Sort».grow (redrawn w1 d) os) (fun e w' => e = .returned (.int .i64 (mayE ⟨false, tc, vs⟩)) ∧ Below («Sort».grow (redrawn w1 d) os).heap.size («Sort».grow (redrawn w1 d) os) w') := fun d os =>
                    may_any _ ⟨false, tc, vs⟩ _ _ ((Hq.out.below (below_regrown w1 d os)).more (below_regrown w1 d os).size) (Nat.le_refl _)
                  replace hq := Lib.hid hq
                  have kx4 := fun d os => cell_regrown Hq1.out d os; rw [HM.out] at hq
                  refine wp_region_quiet_below (by kernel_rfl) (by kernel_rfl) ?_
                  repeat (go_big_quiet_step ((first | (go_at_call 42; exact Calls.regrown_of (hq.out _ _)))))
                  refine wpQuiet_nil ?_
                  intro _ hw'
                  obtain ⟨⟨dq, osq⟩, hw''⟩ := hw'
                  subst hw''
                  have Hb2 := Lib.hid (Hb1.out.trans ((below_regrown w1 dq osq).mono Hb1.out.size))
                  clear kx0 kx1 kx2 kx3 hq
                  go_wp2_with fail
                  go_roundg (n - ((k' + 1) + 1))
                  case measure => omega
                  case rel => exact ⟨(k' + 1) + 1, xv, by omega, rfl, by simp, by rw [Hmay.out, Hdrop.out]; simp [mayFrom, HY.out _ Hpx.out], fun h => absurd h (by omega), fun k' h e => (by cases e; rw [Hxk.out]), Hb2.out⟩
    · have HF : Hid (0 = mayUE xs) := by
        show _ = _
        rw [mayUE_yes]
        rw [hmay, List.drop_eq_nil_of_le (by omega)]
        rfl
      clear hmay hp0 hp1 hbel
      go_wp2_with fail
      go_ret
      exact ⟨ret_int HF.out, Hbel.out⟩

end Go.Proofs.Ytimlbpjdgnapoaa
