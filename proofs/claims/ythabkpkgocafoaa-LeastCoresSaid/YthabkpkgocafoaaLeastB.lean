/- Contracts of least.may, (*least.solver).left. -/
import Derived.Test.YthabkpkgocafoaaIneqE
import Derived.Deep.QuietTactic
import Derived.BigQuiet
namespace Go.Proofs.Ythabkpkgocafoaa
set_option linter.unusedVariables false
set_option linter.unusedSimpArgs false
open Go.RowKit

def mayL (x : IneqD) (n : Int) : Bool := mayX x && (x.lc != 0 || decide (x.lv < n)) && decide (x.r < n)
def leftL (is : List Int) (x : IneqD) : Int := if x.lc = 0 then is.getD x.lv.toNat 0 else x.lc


theorem leastMay_any (x : IneqD) (n : Int) (w : World) :
    Calls Try.prog 41 #[.agg #[.int .i64 x.lv, .int .u8 x.lc, .int .u8 x.c, .int .i64 x.r], .int .i64 n] w fun e w' => e = .returned (.bool (mayL x n)) ∧ Below w.heap.size w w' := by
  cases hm : mayX x
  · have HM := Lib.hid (mayQE_no hm)
    have HF : Hid (mayL x n = false) := by show _ = _; simp [mayL, hm]
    clear hm
    have hX := blk_new w #[.int .i64 x.lv, .int .u8 x.lc, .int .u8 x.c, .int .i64 x.r] 31
    have hb0 := below_box (w := w) (Obj.cells #[.int .i64 x.lv, .int .u8 x.lc, .int .u8 x.c, .int .i64 x.r] 31)
    go_enter Try.func41, Try.ntmps41
    go_wp2_with fail
    refine (mayQ_at HM.out _).mono ?_; rintro e w1 ⟨rfl, hb1⟩
    have hX1 := hX.below hb1 hX.lt
    have hw1 := hb0.trans (hb1.mono hb0.size)
    have x0 : w1.cell? ⟨w.heap.size, 0, none⟩ = some (.int .i64 x.lv) := hX1.cell 0
    have x1 : w1.cell? ⟨w.heap.size, 1, none⟩ = some (.int .u8 x.lc) := hX1.cell 1
    have x3 : w1.cell? ⟨w.heap.size, 3, none⟩ = some (.int .i64 x.r) := hX1.cell 3
    go_wp2_with fail
    go_ret
    exact ⟨by rw [HF.out]; first | rfl | (simp; done), hw1⟩
  · have HM := Lib.hid (mayQE_yes hm)
    by_cases h0 : x.lc = 0
    · have d0 : (x.lc != 0) = false := by simp [h0]
      by_cases h1 : x.lv < n
      · have HF : Hid (mayL x n = decide (x.r < n)) := by show _ = _; simp [mayL, hm, h1]
        clear hm h0
        have hX := blk_new w #[.int .i64 x.lv, .int .u8 x.lc, .int .u8 x.c, .int .i64 x.r] 31
        have hb0 := below_box (w := w) (Obj.cells #[.int .i64 x.lv, .int .u8 x.lc, .int .u8 x.c, .int .i64 x.r] 31)
        go_enter Try.func41, Try.ntmps41
        go_wp2_with fail
        refine (mayQ_at HM.out _).mono ?_; rintro e w1 ⟨rfl, hb1⟩
        have hX1 := hX.below hb1 hX.lt
        have hw1 := hb0.trans (hb1.mono hb0.size)
        have x0 : w1.cell? ⟨w.heap.size, 0, none⟩ = some (.int .i64 x.lv) := hX1.cell 0
        have x1 : w1.cell? ⟨w.heap.size, 1, none⟩ = some (.int .u8 x.lc) := hX1.cell 1
        have x3 : w1.cell? ⟨w.heap.size, 3, none⟩ = some (.int .i64 x.r) := hX1.cell 3
        go_wp2_with fail
        go_ret
        exact ⟨by rw [HF.out]; first | rfl | (simp; done), hw1⟩
      · have HF : Hid (mayL x n = false) := by show _ = _; simp [mayL, h0, h1]
        clear hm h0
        have hX := blk_new w #[.int .i64 x.lv, .int .u8 x.lc, .int .u8 x.c, .int .i64 x.r] 31
        have hb0 := below_box (w := w) (Obj.cells #[.int .i64 x.lv, .int .u8 x.lc, .int .u8 x.c, .int .i64 x.r] 31)
        go_enter Try.func41, Try.ntmps41
        go_wp2_with fail
        refine (mayQ_at HM.out _).mono ?_; rintro e w1 ⟨rfl, hb1⟩
        have hX1 := hX.below hb1 hX.lt
        have hw1 := hb0.trans (hb1.mono hb0.size)
        have x0 : w1.cell? ⟨w.heap.size, 0, none⟩ = some (.int .i64 x.lv) := hX1.cell 0
        have x1 : w1.cell? ⟨w.heap.size, 1, none⟩ = some (.int .u8 x.lc) := hX1.cell 1
        have x3 : w1.cell? ⟨w.heap.size, 3, none⟩ = some (.int .i64 x.r) := hX1.cell 3
        go_wp2_with fail
        go_ret
        exact ⟨by rw [HF.out]; first | rfl | (simp; done), hw1⟩
    · have d0 : (x.lc != 0) = true := by simp [h0]
      have HF : Hid (mayL x n = decide (x.r < n)) := by show _ = _; simp [mayL, hm, h0]
      clear hm h0
      have hX := blk_new w #[.int .i64 x.lv, .int .u8 x.lc, .int .u8 x.c, .int .i64 x.r] 31
      have hb0 := below_box (w := w) (Obj.cells #[.int .i64 x.lv, .int .u8 x.lc, .int .u8 x.c, .int .i64 x.r] 31)
      go_enter Try.func41, Try.ntmps41
      go_wp2_with fail
      refine (mayQ_at HM.out _).mono ?_; rintro e w1 ⟨rfl, hb1⟩
      have hX1 := hX.below hb1 hX.lt
      have hw1 := hb0.trans (hb1.mono hb0.size)
      have x0 : w1.cell? ⟨w.heap.size, 0, none⟩ = some (.int .i64 x.lv) := hX1.cell 0
      have x1 : w1.cell? ⟨w.heap.size, 1, none⟩ = some (.int .u8 x.lc) := hX1.cell 1
      have x3 : w1.cell? ⟨w.heap.size, 3, none⟩ = some (.int .i64 x.r) := hX1.cell 3
      go_wp2_with fail
      go_ret
      exact ⟨by rw [HF.out]; first | rfl | (simp; done), hw1⟩

theorem left_any (x : IneqD) (g : Nat) (A : Option Addr) (n c : Nat) (is : List Int) (w : World) (B : Nat) (h2 : w.cell? ⟨g, 2, none⟩ = some (.slice A n c)) (hr : RdI .u8 w B A n c is) (hB : B ≤ w.heap.size) (hg : g < w.heap.size) (hlv : x.lc = 0 → 0 ≤ x.lv ∧ x.lv < n) :
    Calls Try.prog 45 #[.pointer (some ⟨g, 0, none⟩), .agg #[.int .i64 x.lv, .int .u8 x.lc, .int .u8 x.c, .int .i64 x.r]] w fun e w' => e = .returned (.int .u8 (leftL is x)) ∧ Below w.heap.size w w' := by
  obtain ⟨lv, lc, xc, xr⟩ := x
  dsimp only at hlv ⊢
  have hn63 : n ≤ 9223372036854775807 := Nat.le_trans hr.2.1 hr.2.2
  by_cases h0 : lc = 0
  · obtain ⟨hv0, hv1⟩ := hlv h0
    obtain ⟨k, rfl⟩ : ∃ k : Nat, lv = (k : Int) := ⟨lv.toNat, (Int.toNat_of_nonneg hv0).symm⟩
    subst h0
    have hX := blk_new w #[.int .i64 (k : Int), .int .u8 0, .int .u8 xc, .int .i64 xr] 31
    have hb0 := below_box (w := w) (Obj.cells #[.int .i64 (k : Int), .int .u8 0, .int .u8 xc, .int .i64 xr] 31)
    have y2 : (w.alloc (Obj.cells #[.int .i64 (k : Int), .int .u8 0, .int .u8 xc, .int .i64 xr] 31)).cell? ⟨g, 2, none⟩ = some (.slice A n c) := (World.cell?_alloc_lt _ _ ⟨g, 2, none⟩ hg).trans h2
    have x0 : (w.alloc (Obj.cells #[.int .i64 (k : Int), .int .u8 0, .int .u8 xc, .int .i64 xr] 31)).cell? ⟨w.heap.size, 0, none⟩ = some (.int .i64 (k : Int)) := hX.cell 0
    have x1 : (w.alloc (Obj.cells #[.int .i64 (k : Int), .int .u8 0, .int .u8 xc, .int .i64 xr] 31)).cell? ⟨w.heap.size, 1, none⟩ = some (.int .u8 0) := hX.cell 1
    have hl := hr.len
    have hkn : k < n := by omega
    obtain ⟨b, off, rfl, hb, hcell⟩ := (hr.below (hb0.mono hB)).at_ (by omega)
    have hkl : k < is.length := by omega
    have q0 := hcell k hkl
    have HF : Hid (leftL is ⟨k, 0, xc, xr⟩ = is[k]) := by
      show _ = _
      unfold leftL
      rw [if_pos rfl]
      simp [List.getD, hkl]
    generalize is[k] = LL at q0 HF
    have i1 : (0 : Int) ≤ (k : Int) := by omega
    have i2 : (k : Int) < n := by omega
    clear hlv hv0 hv1 hcell hl hkl
    go_enter Try.func45, Try.ntmps45
    go_wp2_with fail
    go_quiet (fail)
    go_wp2_with fail
    go_ret
    exact ⟨by rw [HF.out]; rfl, below_drewN_t hb0 _⟩
  · skip
    have hX := blk_new w #[.int .i64 lv, .int .u8 lc, .int .u8 xc, .int .i64 xr] 31
    have hb0 := below_box (w := w) (Obj.cells #[.int .i64 lv, .int .u8 lc, .int .u8 xc, .int .i64 xr] 31)
    have y2 : (w.alloc (Obj.cells #[.int .i64 lv, .int .u8 lc, .int .u8 xc, .int .i64 xr] 31)).cell? ⟨g, 2, none⟩ = some (.slice A n c) := (World.cell?_alloc_lt _ _ ⟨g, 2, none⟩ hg).trans h2
    have x0 : (w.alloc (Obj.cells #[.int .i64 lv, .int .u8 lc, .int .u8 xc, .int .i64 xr] 31)).cell? ⟨w.heap.size, 0, none⟩ = some (.int .i64 lv) := hX.cell 0
    have x1 : (w.alloc (Obj.cells #[.int .i64 lv, .int .u8 lc, .int .u8 xc, .int .i64 xr] 31)).cell? ⟨w.heap.size, 1, none⟩ = some (.int .u8 lc) := hX.cell 1
    have HF : Hid (leftL is ⟨lv, lc, xc, xr⟩ = lc) := by show _ = _; unfold leftL; rw [if_neg h0]
    have d0 : (lc != 0) = true := by simp [h0]
    clear h0 hlv
    go_enter Try.func45, Try.ntmps45
    go_wp2_with fail
    go_ret
    exact ⟨by rw [HF.out]; rfl, hb0⟩

end Go.Proofs.Ythabkpkgocafoaa
