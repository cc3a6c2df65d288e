/- Contracts of usufructlaw01's own helpers: works, lets; variadic calls of two. -/
import Derived.Test.YtmpodijbgkcdhaaMult
namespace Go.Proofs.Ytmpodijbgkcdhaa
set_option linter.unusedVariables false
set_option linter.unusedSimpArgs false
open Go.RowKit

theorem join2_any (a b : Int) (w : World) (B : Nat) (hB : B = w.heap.size) :
    Calls Try.prog 11 #[.slice (some ⟨B, 0, none⟩) 2 2] (w.alloc (Obj.cells #[.int .u8 a, .int .u8 b] 24)) fun e w' => e = .returned (.int .u8 (joinI [a, b])) ∧ w.alloc (Obj.cells #[.int .u8 a, .int .u8 b] 24) = w' :=
  by subst hB; exact join_any _ _ _ _ [a, b] _ (Rd.new w [.int .u8 a, .int .u8 b] 24) (by omega)
theorem sum2_any (a b : Int) (w : World) (B : Nat) (hB : B = w.heap.size) :
    Calls Try.prog 12 #[.slice (some ⟨B, 0, none⟩) 2 2] (w.alloc (Obj.cells #[.int .u8 a, .int .u8 b] 24)) fun e w' => e = .returned (.int .u8 (sumI [a, b])) ∧ w.alloc (Obj.cells #[.int .u8 a, .int .u8 b] 24) = w' :=
  by subst hB; exact sum_any _ _ _ _ [a, b] _ (Rd.new w [.int .u8 a, .int .u8 b] 24) (by omega)
theorem join2B (a b : Int) (w : World) (B : Nat) (hB : B = w.heap.size) :
    Calls Try.prog 11 #[.slice (some ⟨B, 0, none⟩) 2 2] (w.alloc (Obj.cells #[.int .u8 a, .int .u8 b] 24)) fun e w' => e = .returned (.int .u8 (joinI [a, b])) ∧ Below (w.alloc (Obj.cells #[.int .u8 a, .int .u8 b] 24)).heap.size (w.alloc (Obj.cells #[.int .u8 a, .int .u8 b] 24)) w' :=
  (join2_any a b w B hB).mono fun _ _ ⟨he, hw⟩ => ⟨he, hw ▸ Below.refl _ _⟩
theorem sum2B (a b : Int) (w : World) (B : Nat) (hB : B = w.heap.size) :
    Calls Try.prog 12 #[.slice (some ⟨B, 0, none⟩) 2 2] (w.alloc (Obj.cells #[.int .u8 a, .int .u8 b] 24)) fun e w' => e = .returned (.int .u8 (sumI [a, b])) ∧ Below (w.alloc (Obj.cells #[.int .u8 a, .int .u8 b] 24)).heap.size (w.alloc (Obj.cells #[.int .u8 a, .int .u8 b] 24)) w' :=
  (sum2_any a b w B hB).mono fun _ _ ⟨he, hw⟩ => ⟨he, hw ▸ Below.refl _ _⟩
theorem join0_any (w : World) :
    Calls Try.prog 11 #[.slice none 0 0] w fun e w' => e = .returned (.int .u8 0) ∧ w = w' :=
  (join_any none 0 0 0 [] w Rd.nil (by omega)).mono fun _ _ ⟨he, hw⟩ => ⟨by rw [he]; rfl, hw⟩
theorem sum0_any (w : World) :
    Calls Try.prog 12 #[.slice none 0 0] w fun e w' => e = .returned (.int .u8 0) ∧ w = w' :=
  (sum_any none 0 0 0 [] w Rd.nil (by omega)).mono fun _ _ ⟨he, hw⟩ => ⟨by rw [he]; rfl, hw⟩

theorem scale_at (m u v : Int) (h : scaleI m u = v) (w : World) :
    Calls Try.prog 16 #[.int .u8 m, .int .u8 u] w fun e w' => e = .returned (.int .u8 v) ∧ w = w' :=
  (scale_any m u w).mono fun _ _ ⟨he, hw⟩ => ⟨by rw [he, h], hw⟩
theorem fits_at (u m : Int) (v : Bool) (h : fitsI u m = v) (w : World) :
    Calls Try.prog 17 #[.int .u8 u, .int .u8 m] w fun e w' => e = .returned (.bool v) ∧ w = w' :=
  (fits_any u m w).mono fun _ _ ⟨he, hw⟩ => ⟨by rw [he, h], hw⟩

set_option maxHeartbeats 400000 in
theorem works_any (w : World) :
    Calls Try.prog 10 #[] w fun e w' => e = .returned (.bool true) ∧ Below w.heap.size w w' := by
  have e1 : joinI [0, 1] = 2 := by decide
  have e2 : sumI [1, 1] = 3 := by decide
  have E1 := Lib.hid e1; have E2 := Lib.hid e2; clear e1 e2
  go_enter Try.func10, Try.ntmps10
  go_wp2_with fail
  refine (join2_any _ _ _ _ (by simp)).mono ?_; rintro e w1 ⟨rfl, rfl⟩
  rw [E1.out]
  go_wp2_with fail
  refine (sum2_any _ _ _ _ (by simp)).mono ?_; rintro e w1 ⟨rfl, rfl⟩
  rw [E2.out]
  go_wp2_with fail
  refine (scale_at _ _ 2 (by decide) _).mono ?_; rintro e w1 ⟨rfl, rfl⟩
  go_wp2_with fail
  refine (fits_at _ _ false (by decide) _).mono ?_; rintro e w1 ⟨rfl, rfl⟩
  go_wp2_with fail
  go_ret
  exact ⟨rfl, ((Below.refl _ _).alloc (Nat.le_refl _) _).alloc (by simp) _⟩

def lawLetsI (u n : Int) : Bool := decide (3 ≤ u) || (u == 2 && decide (n ≤ 1) || (u == 1 && n == 1 || u == 0 && n == 0))

end Go.Proofs.Ytmpodijbgkcdhaa
