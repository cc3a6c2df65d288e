/- The contract of (*least.solver).raise. -/
import Derived.Test.YthabkpkgocafoaaLeastA
import Derived.Test.YthabkpkgocafoaaLeastB
import Derived.Lib.QuietBelow
namespace Go.Proofs.Ythabkpkgocafoaa
set_option linter.unusedVariables false
set_option linter.unusedSimpArgs false
open Go.RowKit Go.Conc

theorem left_at {x : IneqD} {g : Nat} {A : Option Addr} {n c : Nat} {is : List Int} {w : World} {L : Int} (hL : leftL is x = L) (h2 : w.cell? ⟨g, 2, none⟩ = some (.slice A n c)) (hr : RdI .u8 w w.heap.size A n c is) (hg : g < w.heap.size) (hlv : x.lc = 0 → 0 ≤ x.lv ∧ x.lv < n) :
    Calls Try.prog 45 #[.pointer (some ⟨g, 0, none⟩), .agg #[.int .i64 x.lv, .int .u8 x.lc, .int .u8 x.c, .int .i64 x.r]] w fun e w' => e = .returned (.int .u8 L) ∧ Below w.heap.size w w' := by
  rw [← hL]
  exact left_any x g A n c is w w.heap.size h2 hr (Nat.le_refl _) hg hlv

/-- does an inequality raise its variable? -/
def raiseB (is : List Int) (x : IneqD) : Bool := decide (0 ≤ x.r) && decide (max x.c (is.getD x.r.toNat 0) < leftL is x)


set_option maxRecDepth 100000 in
theorem raise_no (g : Nat) (Al : Option Addr) (nl cl : Nat) (xs : List IneqD) (I n ci : Nat) (is : List Int) (i : Nat) (x : IneqD) (w : World) (h0 : w.cell? ⟨g, 0, none⟩ = some (.slice Al nl cl)) (h2 : w.cell? ⟨g, 2, none⟩ = some (.slice (some ⟨I, 0, none⟩) n ci)) (hx : IneqsV w w.heap.size Al nl cl xs) (hr : RdI .u8 w w.heap.size (some ⟨I, 0, none⟩) n ci is) (hg : g < w.heap.size)
    (hi : xs[i]? = some x) (hlv : x.lc = 0 → 0 ≤ x.lv ∧ x.lv < n) (hrn : x.r < n) (hno : raiseB is x = false) :
    Calls Try.prog 65 #[.pointer (some ⟨g, 0, none⟩), .int .i64 i] w fun e w' => e = .returned (.bool false) ∧ Below w.heap.size w w' := by
  obtain ⟨hil, hxi⟩ := List.getElem?_eq_some_iff.1 hi
  have hl := hx.len
  have hin : i < nl := by omega
  have hnl63 : nl ≤ 9223372036854775807 := Nat.le_trans hx.2.1 hx.2.2.1
  have hn63 : n ≤ 9223372036854775807 := Nat.le_trans hr.2.1 hr.2.2
  obtain ⟨bl, offl, rfl, hbl, hcl⟩ := hx.at_ (by omega)
  obtain ⟨e0, e1, e2, e3⟩ := hcl i hil
  rw [hxi] at e0 e1 e2 e3
  have i1 : (0 : Int) ≤ (i : Int) := by omega
  have i2 : (i : Int) < nl := by omega
  have hbx := below_box (w := w) (Obj.cells #[.int .i64 x.lv, .int .u8 x.lc, .int .u8 x.c, .int .i64 x.r] 31)
  have hX := blk_new w #[.int .i64 x.lv, .int .u8 x.lc, .int .u8 x.c, .int .i64 x.r] 31
  have y2 : (w.alloc (Obj.cells #[.int .i64 x.lv, .int .u8 x.lc, .int .u8 x.c, .int .i64 x.r] 31)).cell? ⟨g, 2, none⟩ = some (.slice (some ⟨I, 0, none⟩) n ci) := (World.cell?_alloc_lt _ _ ⟨g, 2, none⟩ hg).trans h2
  have hr1 := (hr.below hbx).more hbx.size
  have hg1 : g < (w.alloc (Obj.cells #[.int .i64 x.lv, .int .u8 x.lc, .int .u8 x.c, .int .i64 x.r] 31)).heap.size := by simp; omega
  obtain ⟨L, hL⟩ : ∃ L, leftL is x = L := ⟨_, rfl⟩
  have hq := left_at hL y2 hr1 hg1 hlv
  have Hq := Lib.hid hq
  have Hlv := Lib.hid hlv
  have HL := Lib.hid hL
  by_cases hr0 : x.r < 0
  · clear hl hcl hxi hi hno hq hlv hL
    go_enter Try.func65, Try.ntmps65
    go_wp2_with fail
    go_quiet (fail)
    go_wp2_with fail
    go_ret
    exact ⟨rfl, below_drewN_t hbx _⟩
  · have hmx := @run_max2 Try.prog
    obtain ⟨lv, lc, xc, xr⟩ := x
    dsimp only at *
    obtain ⟨k, rfl⟩ : ∃ k : Nat, xr = (k : Int) := ⟨xr.toNat, (Int.toNat_of_nonneg (by omega)).symm⟩
    have hil2 := hr.len
    have hkn : k < n := by omega
    have hkl : k < is.length := by omega
    obtain ⟨b9, off9, hA9, hb9, hcell⟩ := hr1.at_ (by omega)
    cases hA9
    have q0 := hcell k hkl
    rw [Nat.zero_add] at q0
    have hnn : ¬ (max xc is[k] < L) := by
      intro h
      have : raiseB is ⟨lv, lc, xc, (k : Int)⟩ = true := by
        have hgd : is.getD (k : Int).toNat 0 = is[k] := by rw [Int.toNat_natCast]; simp [List.getD, hkl]
        unfold raiseB
        rw [hL, hgd, decide_eq_true (show (0 : Int) ≤ (k : Int) by omega), decide_eq_true h]
        rfl
      rw [hno] at this; cases this
    generalize is[k] = LL at q0 hnn
    have d0 : decide ((k : Int) < 0) = false := by simp
    have d1 : decide (L ≤ max xc LL) = true := by simp; omega
    have k1 : (0 : Int) ≤ (k : Int) := by omega
    have k2 : (k : Int) < n := by omega
    have Hbx := Lib.hid hbx
    have Hr1 := Lib.hid hr1
    have HX := Lib.hid hX
    have Hy2 := Lib.hid y2
    clear hl hcl hxi hi hno hq hlv hL hnn hcell hil2 hr1 hr hX hr0 hbx Hq
    go_enter Try.func65, Try.ntmps65
    go_wp2_with fail
    generalize hW : w.alloc (Obj.cells #[.int .i64 lv, .int .u8 lc, .int .u8 xc, .int .i64 (k : Int)] 31) = w0 at y2 q0 hg1 Hr1 HX Hy2 Hbx ⊢
    clear hW
    have x0 : w0.cell? ⟨w.heap.size, 0, none⟩ = some (.int .i64 lv) := HX.out.cell 0
    have x1 : w0.cell? ⟨w.heap.size, 1, none⟩ = some (.int .u8 lc) := HX.out.cell 1
    have x2 : w0.cell? ⟨w.heap.size, 2, none⟩ = some (.int .u8 xc) := HX.out.cell 2
    have x3 : w0.cell? ⟨w.heap.size, 3, none⟩ = some (.int .i64 (k : Int)) := HX.out.cell 3
    have kx0 := fun d os => cell_regrown x0 d os
    have kx1 := fun d os => cell_regrown x1 d os
    have kx2 := fun d os => cell_regrown x2 d os
    have kx3 := fun d os => cell_regrown x3 d os
    have ky2 := fun d os => cell_regrown y2 d os
    have kq0 := fun d os => cell_regrown q0 d os
    clear x0 x1 x2 x3 y2 q0
    have hq : ∀ d os, Calls Try.prog 45 #[.pointer (some ⟨g, 0, none⟩), .agg #[.int .i64 lv, .int .u8 lc, .int .u8 xc, .int .i64 (k : Int)]] («Sort».grow (redrawn w0 d) os) (fun e w' => e = .returned (.int .u8 L) ∧ Below («Sort».grow (redrawn w0 d) os).heap.size («Sort».grow (redrawn w0 d) os) w') := fun d os =>
      left_at (x := ⟨lv, lc, xc, (k : Int)⟩) HL.out (cell_regrown Hy2.out d os) ((Hr1.out.below (below_regrown w0 d os)).more (below_regrown w0 d os).size) (Nat.lt_of_lt_of_le hg1 (below_regrown w0 d os).size) Hlv.out
    replace hq := Lib.hid hq
    refine wp_region_quiet_below (by kernel_rfl) (by kernel_rfl) ?_
    repeat (go_big_quiet_step ((first | (go_at_call 45; exact Calls.regrown_of (hq.out _ _)))))
    refine wpQuiet_nil ?_
    intro _ hw'
    obtain ⟨⟨dq, osq⟩, hw''⟩ := hw'
    subst hw''
    go_wp2_with fail
    go_ret
    exact ⟨rfl, Hbx.out.trans ((below_regrown _ _ _).mono Hbx.out.size)⟩

end Go.Proofs.Ythabkpkgocafoaa
