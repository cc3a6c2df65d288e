/- The contract of usufructref03.Text, and that it tells what ineq.Text tells. -/
import Derived.Test.YtbccnfgceabopaaDoorIneqT
namespace Go.Proofs.YtbccnfgceabopaaDoor
set_option linter.unusedVariables false
set_option linter.unusedSimpArgs false
open Go.RowKit

def barB : ByteArray := ⟨#[124]⟩
def mB : ByteArray := ⟨#[109]⟩
def rleft (lv lc : Int) : ByteArray := if lc = 0 then mB ++ numT lv else rtext lc
def rtextQ (lv lc c r : Int) : ByteArray :=
  if r < 0 then (rleft lv lc ++ sepQ) ++ rtext c
  else if 1 < c then ((((rleft lv lc ++ sepQ) ++ rtext c) ++ barB) ++ mB) ++ numT r
  else ((rleft lv lc ++ sepQ) ++ mB) ++ numT r

theorem digits_at (v : Int) (h0 : 0 ≤ v) (h1 : v ≤ 9223372036854775807) (w : World) :
    Calls Tryd.prog 50 #[.int .i64 v] w fun e w' => e = .returned (.string (numT v)) ∧ w = w' := by
  obtain ⟨z, rfl⟩ : ∃ z : Nat, v = (z : Int) := ⟨v.toNat, (Int.toNat_of_nonneg h0).symm⟩
  rw [show numT (z : Int) = ⟨(Lib.decDigits z).toArray⟩ by unfold numT; rw [Lib.itoa_nonneg]]
  exact digits_any z (by omega) w


set_option maxRecDepth 100000 in
set_option maxHeartbeats 1000000 in
theorem refTextQ_any (lv lc c r : Int) (w : World) (hlv : 0 ≤ lv ∧ lv ≤ 9223372036854775807) (hr : -9223372036854775808 ≤ r ∧ r ≤ 9223372036854775807) :
    Calls Tryd.prog 20 #[.agg #[.int .i64 lv, .int .u8 lc, .int .u8 c, .int .i64 r]] w fun e w' => e = .returned (.string (rtextQ lv lc c r)) ∧ Below w.heap.size w w' := by
  have hbel0 : Below w.heap.size w (w.alloc (Obj.cells #[.int .i64 lv, .int .u8 lc, .int .u8 c, .int .i64 r] 36)) := below_box _
  have hself0 := blk_new w #[.int .i64 lv, .int .u8 lc, .int .u8 c, .int .i64 r] 36
  have Hr := Lib.hid hr
  clear hr
  go_enter Tryd.func20, Tryd.ntmps20
  go_wp2_with fail
  generalize w.alloc (Obj.cells #[.int .i64 lv, .int .u8 lc, .int .u8 c, .int .i64 r] 36) = w0 at hbel0 hself0 ⊢
  refine (digits_at lv hlv.1 hlv.2 w0).mono ?_; rintro e w1 ⟨rfl, rfl⟩
  have x1 : w0.cell? ⟨w.heap.size, 1, none⟩ = some (.int .u8 lc) := hself0.cell 1
  have hln : (numT lv).size ≤ 21 := numT_size lv (by omega) hlv.2
  by_cases h0 : lc = 0
  · have hz : (lc != 0) = false := by simp [h0]
    have hS : rleft lv lc = mB ++ numT lv := if_pos h0
    generalize numT lv = NL at hln hS ⊢
    have HS := Lib.hid hS
    clear h0 hS
    have y2 : w0.cell? ⟨w.heap.size, 2, none⟩ = some (.int .u8 c) := hself0.cell 2
    have y3 : w0.cell? ⟨w.heap.size, 3, none⟩ = some (.int .i64 r) := hself0.cell 3
    have hrc := rtext_size c
    by_cases hr0 : r < 0
    · have HF : Hid (rtextQ lv lc c r = ((mB ++ NL) ++ sepQ) ++ rtext c) := by show _ = _; unfold rtextQ; rw [if_pos hr0, HS.out]
      go_wp2_with fail
      refine (refText_any c _).mono ?_; rintro e w4 ⟨rfl, rfl⟩
      generalize rtext c = RC at hrc HF ⊢
      go_wp2_with fail
      go_ret
      exact ⟨by rw [HF.out]; rfl, hbel0⟩
    · have hr1 : 0 ≤ r := by omega
      have hrn : (numT r).size ≤ 21 := numT_size r (by omega) Hr.out.2
      by_cases h1 : 1 < c
      · have HF : Hid (rtextQ lv lc c r = (((((mB ++ NL) ++ sepQ) ++ rtext c) ++ barB) ++ mB) ++ numT r) := by show _ = _; unfold rtextQ; rw [if_neg hr0, if_pos h1, HS.out]
        go_wp2_with fail
        refine (refText_any c _).mono ?_; rintro e w4 ⟨rfl, rfl⟩
        generalize rtext c = RC at hrc HF ⊢
        go_wp2_with fail
        refine (digits_at r hr1 Hr.out.2 _).mono ?_; rintro e w5 ⟨rfl, rfl⟩
        generalize numT r = NR at hrn HF ⊢
        go_wp2_with fail
        go_ret
        exact ⟨by rw [HF.out]; rfl, hbel0⟩
      · have HF : Hid (rtextQ lv lc c r = (((mB ++ NL) ++ sepQ) ++ mB) ++ numT r) := by show _ = _; unfold rtextQ; rw [if_neg hr0, if_neg h1, HS.out]
        go_wp2_with fail
        refine (digits_at r hr1 Hr.out.2 _).mono ?_; rintro e w5 ⟨rfl, rfl⟩
        generalize numT r = NR at hrn HF ⊢
        go_wp2_with fail
        go_ret
        exact ⟨by rw [HF.out]; rfl, hbel0⟩
  · have hz : (lc != 0) = true := by simp [h0]
    have hS : rleft lv lc = rtext lc := if_neg h0
    have hs0 := rtext_size lc
    generalize numT lv = NL at hln ⊢
    clear h0
    go_wp2_with fail
    refine (refText_any lc _).mono ?_; rintro e w3 ⟨rfl, rfl⟩
    generalize rtext lc = S0 at hS hs0 ⊢
    have HS := Lib.hid hS
    clear hS
    have y2 : w0.cell? ⟨w.heap.size, 2, none⟩ = some (.int .u8 c) := hself0.cell 2
    have y3 : w0.cell? ⟨w.heap.size, 3, none⟩ = some (.int .i64 r) := hself0.cell 3
    have hrc := rtext_size c
    by_cases hr0 : r < 0
    · have HF : Hid (rtextQ lv lc c r = (S0 ++ sepQ) ++ rtext c) := by show _ = _; unfold rtextQ; rw [if_pos hr0, HS.out]
      go_wp2_with fail
      refine (refText_any c _).mono ?_; rintro e w4 ⟨rfl, rfl⟩
      generalize rtext c = RC at hrc HF ⊢
      go_wp2_with fail
      go_ret
      exact ⟨by rw [HF.out]; rfl, hbel0⟩
    · have hr1 : 0 ≤ r := by omega
      have hrn : (numT r).size ≤ 21 := numT_size r (by omega) Hr.out.2
      by_cases h1 : 1 < c
      · have HF : Hid (rtextQ lv lc c r = ((((S0 ++ sepQ) ++ rtext c) ++ barB) ++ mB) ++ numT r) := by show _ = _; unfold rtextQ; rw [if_neg hr0, if_pos h1, HS.out]
        go_wp2_with fail
        refine (refText_any c _).mono ?_; rintro e w4 ⟨rfl, rfl⟩
        generalize rtext c = RC at hrc HF ⊢
        go_wp2_with fail
        refine (digits_at r hr1 Hr.out.2 _).mono ?_; rintro e w5 ⟨rfl, rfl⟩
        generalize numT r = NR at hrn HF ⊢
        go_wp2_with fail
        go_ret
        exact ⟨by rw [HF.out]; rfl, hbel0⟩
      · have HF : Hid (rtextQ lv lc c r = ((S0 ++ sepQ) ++ mB) ++ numT r) := by show _ = _; unfold rtextQ; rw [if_neg hr0, if_neg h1, HS.out]
        go_wp2_with fail
        refine (digits_at r hr1 Hr.out.2 _).mono ?_; rintro e w5 ⟨rfl, rfl⟩
        generalize numT r = NR at hrn HF ⊢
        go_wp2_with fail
        go_ret
        exact ⟨by rw [HF.out]; rfl, hbel0⟩

end Go.Proofs.YtbccnfgceabopaaDoor
