/- Contracts of package mult's functions: what each call returns, the world unchanged or grown by new blocks. -/
import Derived.Test.YtbccnfgceabopaaDoorProg
import Derived.Test.YtbccnfgceabopaaDoorBase
namespace Go.Proofs.YtbccnfgceabopaaDoor
set_option linter.unusedVariables false
set_option linter.unusedSimpArgs false
open Go.RowKit

/-- a multiplicity that is one -/
def nearI (m : Int) : Int := if m ≤ 1 then 1 else if m ≤ 3 then m else 3
theorem nearI_lo (m : Int) : 1 ≤ nearI m := by unfold nearI; split <;> (try split) <;> omega
theorem nearI_hi (m : Int) : nearI m ≤ 3 := by unfold nearI; split <;> (try split) <;> omega
theorem nearI_eq (m : Int) : min (max m 1) 3 = nearI m := by unfold nearI; split <;> (try split) <;> omega

theorem near_any (m : Int) (w : World) :
    Calls Tryd.prog 57 #[.int .u8 m] w fun e w' => e = .returned (.int .u8 (nearI m)) ∧ w = w' := by
  have hmx := @run_max2 Tryd.prog
  have hmn := @run_min2 Tryd.prog
  go_enter Tryd.func57, Tryd.ntmps57
  go_wp2
  go_ret
  exact ⟨ret_int (nearI_eq m), rfl⟩

def scaleI (m u : Int) : Int := if u = 0 then 0 else max (min u 3) (nearI m)
theorem scale_any (m u : Int) (w : World) :
    Calls Tryd.prog 55 #[.int .u8 m, .int .u8 u] w fun e w' => e = .returned (.int .u8 (scaleI m u)) ∧ w = w' := by
  have hmx := @run_max2 Tryd.prog
  have hmn := @run_min2 Tryd.prog
  by_cases h : u = 0
  · have hb : (u == 0) = true := by simp [h]
    go_enter Tryd.func55, Tryd.ntmps55
    go_wp2_with fail
    go_ret
    exact ⟨ret_int (by simp [scaleI, h]), rfl⟩
  · have hb : (u == 0) = false := by simp [h]
    go_enter Tryd.func55, Tryd.ntmps55
    go_wp2_with (go_at_call 57; refine (near_any _ _).mono ?_; rintro e w' ⟨rfl, rfl⟩)
    go_ret
    exact ⟨ret_int (by simp [scaleI, h]), rfl⟩

def leastI (u : Int) : Int := if u = 0 then 2 else nearI u
theorem leastI_lo (m : Int) : 1 ≤ leastI m := by have := nearI_lo m; unfold leastI; split <;> omega
theorem leastI_hi (m : Int) : leastI m ≤ 3 := by have := nearI_hi m; unfold leastI; split <;> omega
theorem least_any (u : Int) (w : World) :
    Calls Tryd.prog 56 #[.int .u8 u] w fun e w' => e = .returned (.int .u8 (leastI u)) ∧ w = w' := by
  by_cases h : u = 0
  · have hb : (u == 0) = true := by simp [h]
    go_enter Tryd.func56, Tryd.ntmps56
    go_wp2_with fail
    go_ret
    exact ⟨ret_int (by simp [leastI, h]), rfl⟩
  · have hb : (u == 0) = false := by simp [h]
    go_enter Tryd.func56, Tryd.ntmps56
    go_wp2_with (go_at_call 57; refine (near_any _ _).mono ?_; rintro e w' ⟨rfl, rfl⟩)
    go_ret
    exact ⟨ret_int (by simp [leastI, h]), rfl⟩

def fitsI (u m : Int) : Bool := decide (leastI u ≤ nearI m)
theorem fits_any (u m : Int) (w : World) :
    Calls Tryd.prog 27 #[.int .u8 u, .int .u8 m] w fun e w' => e = .returned (.bool (fitsI u m)) ∧ w = w' := by
  go_enter Tryd.func27, Tryd.ntmps27
  go_wp2_with (first | (go_at_call 57; refine (near_any _ _).mono ?_; rintro e w' ⟨rfl, rfl⟩) | (go_at_call 56; refine (least_any _ _).mono ?_; rintro e w' ⟨rfl, rfl⟩))
  go_ret
  exact ⟨ret_bool (by simp [fitsI]), rfl⟩

/-- joined: the greatest, at least AtMost where one is Never and another is not -/
def joinM (us : List Int) : Int := us.foldl (fun a u => max a (min u 3)) 0
def joinN (us : List Int) : Bool := us.foldl (fun b u => b || u == 0) false
def joinI (us : List Int) : Int := if joinN us && joinM us != 0 then max (joinM us) 2 else joinM us
def sumI (us : List Int) : Int := us.foldl (fun a u => if u = 0 then a else if a = 0 then min u 3 else 3) 0

theorem joinM_snoc (us : List Int) (u : Int) : joinM (us ++ [u]) = max (joinM us) (min u 3) := by simp [joinM, List.foldl_append]
theorem joinN_snoc (us : List Int) (u : Int) : joinN (us ++ [u]) = (joinN us || u == 0) := by simp [joinN, List.foldl_append]
theorem sumI_snoc (us : List Int) (u : Int) : sumI (us ++ [u]) = (if u = 0 then sumI us else if sumI us = 0 then min u 3 else 3) := by
  unfold sumI
  rw [List.foldl_append]
  rfl
theorem take_succ_int (us : List Int) (k : Nat) (h : k < us.length) : us.take (k + 1) = us.take k ++ [us[k]] := by
  rw [List.take_succ_eq_append_getElem h]



end Go.Proofs.YtbccnfgceabopaaDoor
