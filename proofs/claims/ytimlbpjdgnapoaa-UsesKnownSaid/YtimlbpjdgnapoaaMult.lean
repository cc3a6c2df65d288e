/- Contracts of package mult's functions: what each call returns, the world unchanged or grown by new blocks. -/
import Derived.Test.YtimlbpjdgnapoaaProg
import Derived.Test.YtimlbpjdgnapoaaBase
namespace Go.Proofs.Ytimlbpjdgnapoaa
set_option linter.unusedVariables false
set_option linter.unusedSimpArgs false
open Go.RowKit

/-- a multiplicity that is one -/
def nearI (m : Int) : Int := if m ≤ 1 then 1 else if m ≤ 3 then m else 3
theorem nearI_lo (m : Int) : 1 ≤ nearI m := by unfold nearI; split <;> (try split) <;> omega
theorem nearI_hi (m : Int) : nearI m ≤ 3 := by unfold nearI; split <;> (try split) <;> omega
theorem nearI_eq (m : Int) : min (max m 1) 3 = nearI m := by unfold nearI; split <;> (try split) <;> omega

theorem near_any (m : Int) (w : World) :
    Calls Try.prog 66 #[.int .u8 m] w fun e w' => e = .returned (.int .u8 (nearI m)) ∧ w = w' := by
  have hmx := @run_max2 Try.prog
  have hmn := @run_min2 Try.prog
  go_enter Try.func66, Try.ntmps66
  go_wp2
  go_ret
  exact ⟨ret_int (nearI_eq m), rfl⟩
def scaleI (m u : Int) : Int := if u = 0 then 0 else max (min u 3) (nearI m)
theorem scale_any (m u : Int) (w : World) :
    Calls Try.prog 39 #[.int .u8 m, .int .u8 u] w fun e w' => e = .returned (.int .u8 (scaleI m u)) ∧ w = w' := by
  have hmx := @run_max2 Try.prog
  have hmn := @run_min2 Try.prog
  by_cases h : u = 0
  · have hb : (u == 0) = true := by simp [h]
    go_enter Try.func39, Try.ntmps39
    go_wp2_with fail
    go_ret
    exact ⟨ret_int (by simp [scaleI, h]), rfl⟩
  · have hb : (u == 0) = false := by simp [h]
    go_enter Try.func39, Try.ntmps39
    go_wp2_with (go_at_call 66; refine (near_any _ _).mono ?_; rintro e w' ⟨rfl, rfl⟩)
    go_ret
    exact ⟨ret_int (by simp [scaleI, h]), rfl⟩
def leastI (u : Int) : Int := if u = 0 then 2 else nearI u
theorem leastI_lo (m : Int) : 1 ≤ leastI m := by have := nearI_lo m; unfold leastI; split <;> omega
theorem leastI_hi (m : Int) : leastI m ≤ 3 := by have := nearI_hi m; unfold leastI; split <;> omega
theorem least_any (u : Int) (w : World) :
    Calls Try.prog 40 #[.int .u8 u] w fun e w' => e = .returned (.int .u8 (leastI u)) ∧ w = w' := by
  by_cases h : u = 0
  · have hb : (u == 0) = true := by simp [h]
    go_enter Try.func40, Try.ntmps40
    go_wp2_with fail
    go_ret
    exact ⟨ret_int (by simp [leastI, h]), rfl⟩
  · have hb : (u == 0) = false := by simp [h]
    go_enter Try.func40, Try.ntmps40
    go_wp2_with (go_at_call 66; refine (near_any _ _).mono ?_; rintro e w' ⟨rfl, rfl⟩)
    go_ret
    exact ⟨ret_int (by simp [leastI, h]), rfl⟩

/-- joined: the greatest, at least AtMost where one is Never and another is not -/
def joinM (us : List Int) : Int := us.foldl (fun a u => max a (min u 3)) 0
def joinN (us : List Int) : Bool := us.foldl (fun b u => b || u == 0) false
def joinI (us : List Int) : Int := if joinN us && joinM us != 0 then max (joinM us) 2 else joinM us
def sumI (us : List Int) : Int := us.foldl (fun a u => if u = 0 then a else if a = 0 then min u 3 else 3) 0

theorem joinM_snoc (us : List Int) (u : Int) : joinM (us ++ [u]) = max (joinM us) (min u 3) := by simp [joinM, List.foldl_append]
theorem joinN_snoc (us : List Int) (u : Int) : joinN (us ++ [u]) = (joinN us || u == 0) := by simp [joinN, List.foldl_append]
theorem sumI_snoc (us : List Int) (u : Int) : sumI (us ++ [u]) = (if u = 0 then sumI us else if sumI us = 0 then min u 3 else 3) := by
  unfold sumI
  rw [List.foldl_append]
  rfl
theorem take_succ_int (us : List Int) (k : Nat) (h : k < us.length) : us.take (k + 1) = us.take k ++ [us[k]] := by
  rw [List.take_succ_eq_append_getElem h]

--@IF f{usufruct/mult.Join}
set_option maxHeartbeats 400000 in
theorem join_any (A : Option Addr) (n c B : Nat) (us : List Int) (w : World) (hr : Rd w B 1 A n (us.map (Value.int .u8))) (hn : n ≤ 9223372036854775807) :
    Calls Try.prog 36 #[.slice A n c] w fun e w' => e = .returned (.int .u8 (joinI us)) ∧ w = w' := by
  have hmx := @run_max2 Try.prog
  have hmn := @run_min2 Try.prog
  have hlen : us.length = n := by simpa using hr.1
  have Hlen := Lib.hid hlen
  clear hlen
  go_enter Try.func36, Try.ntmps36
  go_wp2_with fail
  go_loop [3, 4, 9] (fun m b i => ∃ k : Nat, k ≤ n ∧ i = .int .i64 k ∧ m = .int .u8 (joinM (us.take k)) ∧ b = .bool (joinN (us.take k))) (fun _ _ i => n - (intOf i).toNat)
  case atStart => exact ⟨0, Nat.zero_le _, rfl, rfl, rfl⟩
  case round =>
    obtain ⟨k, hk, rfl, rfl, rfl⟩ := hrel
    by_cases hlt : k < n
    · obtain ⟨b, off, rfl, hb, hc⟩ := hr.2 (by omega)
      have hk' : k < us.length := by rw [Hlen.out]; exact hlt
      have hcell : w.cell? ⟨b, off + k, none⟩ = some (.int .u8 us[k]) := hc k _ (by simp [hk'])
      have HM : Hid (joinM (us.take (k + 1)) = max (joinM (us.take k)) (min us[k] 3)) := by show _ = _; rw [take_succ_int us k hk', joinM_snoc]
      have HN : Hid (joinN (us.take (k + 1)) = (joinN (us.take k) || us[k] == 0)) := by show _ = _; rw [take_succ_int us k hk', joinN_snoc]
      clear hc
      go_wp2_with fail
      all_goals
        go_round
        case rel => exact ⟨k + 1, by omega, by go_num, by rw [HM.out], by rw [HN.out]; simp [*]⟩
        case measure => simp [intOf]; omega
    · have e : us.take k = us := List.take_of_length_le (by rw [Hlen.out]; omega)
      simp only [e]
      by_cases h1 : joinN us = true
      · by_cases h2 : joinM us = 0
        · have h3 : (joinM us != 0) = false := by simp [h2]
          have Hf : Hid (joinM us = joinI us) := by show _ = _; simp [joinI, h2]
          clear h2
          go_wp2_with fail
          go_ret
          exact ⟨ret_int Hf.out, rfl⟩
        · have h3 : (joinM us != 0) = true := by simp [h2]
          have Hf : Hid (max (joinM us) 2 = joinI us) := by show _ = _; simp [joinI, h1, h2]
          clear h2
          go_wp2_with fail
          go_ret
          exact ⟨ret_int Hf.out, rfl⟩
      · have h1' : joinN us = false := by simpa using h1
        have Hf : Hid (joinM us = joinI us) := by show _ = _; simp [joinI, h1']
        clear h1
        go_wp2_with fail
        go_ret
        exact ⟨ret_int Hf.out, rfl⟩
--@ENDIF

--@IF f{usufruct/mult.Sum}
set_option maxHeartbeats 400000 in
theorem sum_any (A : Option Addr) (n c B : Nat) (us : List Int) (w : World) (hr : Rd w B 1 A n (us.map (Value.int .u8))) (hn : n ≤ 9223372036854775807) :
    Calls Try.prog 37 #[.slice A n c] w fun e w' => e = .returned (.int .u8 (sumI us)) ∧ w = w' := by
  have hmx := @run_max2 Try.prog
  have hmn := @run_min2 Try.prog
  have hlen : us.length = n := by simpa using hr.1
  have Hlen := Lib.hid hlen
  clear hlen
  go_enter Try.func37, Try.ntmps37
  go_wp2_with fail
  go_loop [3, 8] (fun m i => ∃ k : Nat, k ≤ n ∧ i = .int .i64 k ∧ m = .int .u8 (sumI (us.take k))) (fun _ i => n - (intOf i).toNat)
  case atStart => exact ⟨0, Nat.zero_le _, rfl, rfl⟩
  case round =>
    obtain ⟨k, hk, rfl, rfl⟩ := hrel
    by_cases hlt : k < n
    · obtain ⟨b, off, rfl, hb, hc⟩ := hr.2 (by omega)
      have hk' : k < us.length := by rw [Hlen.out]; exact hlt
      have hcell : w.cell? ⟨b, off + k, none⟩ = some (.int .u8 us[k]) := hc k _ (by simp [hk'])
      have HM : Hid (sumI (us.take (k + 1)) = (if us[k] = 0 then sumI (us.take k) else if sumI (us.take k) = 0 then min us[k] 3 else 3)) := by show _ = _; rw [take_succ_int us k hk', sumI_snoc]
      clear hc
      go_wp2_with fail
      all_goals
        go_round
        case rel => exact ⟨k + 1, by omega, by go_num, by rw [HM.out]; simp_all⟩
        case measure => simp [intOf]; omega
    · have e : us.take k = us := List.take_of_length_le (by rw [Hlen.out]; omega)
      simp only [e]
      go_wp2_with fail
      go_ret
      exact ⟨rfl, rfl⟩
--@ENDIF

end Go.Proofs.Ytimlbpjdgnapoaa
