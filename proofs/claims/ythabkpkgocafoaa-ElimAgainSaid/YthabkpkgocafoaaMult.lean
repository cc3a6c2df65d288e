/- Contracts of package mult's functions: what each call returns, the world unchanged or grown by new blocks. -/
import Derived.Test.YthabkpkgocafoaaProg
import Derived.Test.YthabkpkgocafoaaBase
namespace Go.Proofs.Ythabkpkgocafoaa
set_option linter.unusedVariables false
set_option linter.unusedSimpArgs false
open Go.RowKit

/-- a multiplicity that is one -/
def nearI (m : Int) : Int := if m ≤ 1 then 1 else if m ≤ 3 then m else 3
theorem nearI_lo (m : Int) : 1 ≤ nearI m := by unfold nearI; split <;> (try split) <;> omega
theorem nearI_hi (m : Int) : nearI m ≤ 3 := by unfold nearI; split <;> (try split) <;> omega
theorem nearI_eq (m : Int) : min (max m 1) 3 = nearI m := by unfold nearI; split <;> (try split) <;> omega

def scaleI (m u : Int) : Int := if u = 0 then 0 else max (min u 3) (nearI m)
def leastI (u : Int) : Int := if u = 0 then 2 else nearI u
theorem leastI_lo (m : Int) : 1 ≤ leastI m := by have := nearI_lo m; unfold leastI; split <;> omega
theorem leastI_hi (m : Int) : leastI m ≤ 3 := by have := nearI_hi m; unfold leastI; split <;> omega

/-- joined: the greatest, at least AtMost where one is Never and another is not -/
def joinM (us : List Int) : Int := us.foldl (fun a u => max a (min u 3)) 0
def joinN (us : List Int) : Bool := us.foldl (fun b u => b || u == 0) false
def joinI (us : List Int) : Int := if joinN us && joinM us != 0 then max (joinM us) 2 else joinM us
def sumI (us : List Int) : Int := us.foldl (fun a u => if u = 0 then a else if a = 0 then min u 3 else 3) 0

theorem joinM_snoc (us : List Int) (u : Int) : joinM (us ++ [u]) = max (joinM us) (min u 3) := by simp [joinM, List.foldl_append]
theorem joinN_snoc (us : List Int) (u : Int) : joinN (us ++ [u]) = (joinN us || u == 0) := by simp [joinN, List.foldl_append]
theorem sumI_snoc (us : List Int) (u : Int) : sumI (us ++ [u]) = (if u = 0 then sumI us else if sumI us = 0 then min u 3 else 3) := by
  unfold sumI
  rw [List.foldl_append]
  rfl
theorem take_succ_int (us : List Int) (k : Nat) (h : k < us.length) : us.take (k + 1) = us.take k ++ [us[k]] := by
  rw [List.take_succ_eq_append_getElem h]

--@ENDIF

--@ENDIF

end Go.Proofs.Ythabkpkgocafoaa
