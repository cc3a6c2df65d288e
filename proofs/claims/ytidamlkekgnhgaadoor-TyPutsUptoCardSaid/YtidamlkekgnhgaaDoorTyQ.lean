/- ContainsFunc over Mus, as Put asks. -/
import Derived.Test.YtidamlkekgnhgaaDoorTyP
namespace Go.Proofs.YtidamlkekgnhgaaDoor
set_option linter.unusedVariables false
set_option linter.unusedSimpArgs false
open Go.RowKit

theorem put2_any (V C : Int) (r : Bool) (hr : (!isB C V) = r) (w : World) :
    Calls Tryd.prog 55 #[.agg #[.int .i64 V, .int .u8 C]] w fun e w' => e = .returned (.bool r) ∧ Below w.heap.size w w' := by
  have hbx := below_box (w := w) (Obj.cells #[.int .i64 V, .int .u8 C] 24)
  cases r with
  | true =>
    have hq := is_at C V 2 (isE_no (by simpa using hr)) (w.alloc (Obj.cells #[.int .i64 V, .int .u8 C] 24))
    have Hq := Lib.hid hq
    clear hq hr
    go_enter Tryd.func55, Tryd.ntmps55
    go_wp2_with fail
    refine Hq.out.mono ?_; rintro e w1 ⟨rfl, hb1⟩
    go_wp2_with fail
    go_ret
    exact ⟨rfl, hbx.trans (hb1.mono hbx.size)⟩
  | false =>
    have hq := is_at C V 0 (isE_yes (by simpa using hr)) (w.alloc (Obj.cells #[.int .i64 V, .int .u8 C] 24))
    have Hq := Lib.hid hq
    clear hq hr
    go_enter Tryd.func55, Tryd.ntmps55
    go_wp2_with fail
    refine Hq.out.mono ?_; rintro e w1 ⟨rfl, hb1⟩
    go_wp2_with fail
    go_ret
    exact ⟨rfl, hbx.trans (hb1.mono hbx.size)⟩

set_option maxRecDepth 100000 in
set_option maxHeartbeats 1000000 in
theorem indexMu (A : Option Addr) (n c : Nat) (ms : List (Int × Int)) (w : World) (hr : MusV w w.heap.size A n c ms) :
    Calls Tryd.prog 78 #[.slice A n c, .func (.func 55) #[] #[]] w fun e w' => ∃ z : Int, e = .returned (.int .i64 z) ∧ decide (z ≥ 0) = ms.any (fun x => !isB x.2 x.1) ∧ Below w.heap.size w w' := by
  have hlen := hr.len
  have m63 : n ≤ 9223372036854775807 := Nat.le_trans hr.2.1 hr.2.2.1
  have Hr := Lib.hid hr
  clear hr
  go_enter Tryd.func78, Tryd.ntmps78
  go_wp2_with fail
  go_loopg [5, 8] n (fun g _ i wr => ∃ k : Nat, k ≤ n ∧ g = n - k ∧ i = .int .i64 k ∧ (∀ j (h : j < ms.length), j < k → isB ms[j].2 ms[j].1 = true) ∧ Below w.heap.size w wr)
  case atStart => exact ⟨0, Nat.zero_le _, rfl, rfl, fun j _ h => absurd h (by omega), Below.refl _ _⟩
  case round =>
    obtain ⟨k, hk, rfl, rfl, hno, hbel⟩ := hrel
    have Hno := Lib.hid hno
    have Hbel := Lib.hid hbel
    clear hno
    by_cases hkn : k < n
    · have d0 : decide (k < n) = true := by simpa using hkn
      have hk' : k < ms.length := by omega
      obtain ⟨b, off, rfl, hb, hc⟩ := (Hr.out.below hbel).2.2.2 (by omega)
      obtain ⟨e0, e1⟩ := hc k hk'
      obtain ⟨P, hP⟩ : ∃ P, (!isB ms[k].2 ms[k].1) = P := ⟨_, rfl⟩
      have hq := put2_any ms[k].1 ms[k].2 P hP wr
      have Hq := Lib.hid hq
      have HP := Lib.hid hP
      have k1 : (0 : Int) ≤ (k : Int) := by omega
      have k2 : (k : Int) < n := by omega
      clear hc hq hP hbel
      cases P with
      | false =>
        have hno2 : ∀ j (h : j < ms.length), j < k + 1 → isB ms[j].2 ms[j].1 = true := fun j hj hjk => by
          rcases Nat.lt_or_ge j k with h | h
          · exact Hno.out j hj h
          · have : j = k := by omega
            subst this
            have := HP.out
            simpa using this
        have Hno2 := Lib.hid hno2
        clear hno2
        go_wp2_with fail
        refine Hq.out.mono ?_; rintro e w1 ⟨rfl, hb1⟩
        have Hb1 := Lib.hid (Hbel.out.trans (hb1.mono Hbel.out.size))
        clear hb1
        go_wp2_with fail
        go_roundg (n - (k + 1))
        case measure => omega
        case rel => exact ⟨k + 1, by omega, rfl, by go_num, Hno2.out, Hb1.out⟩
      | true =>
        have HF : Hid (decide ((k : Int) ≥ 0) = ms.any (fun x => !isB x.2 x.1)) := Lib.hid (by
          rw [decide_eq_true (by omega)]
          exact (List.any_eq_true.2 ⟨_, List.getElem_mem hk', HP.out⟩).symm)
        go_wp2_with fail
        refine Hq.out.mono ?_; rintro e w1 ⟨rfl, hb1⟩
        have Hb1 := Lib.hid (Hbel.out.trans (hb1.mono Hbel.out.size))
        clear hb1
        go_wp2_with fail
        go_ret
        exact ⟨(k : Int), rfl, HF.out, Hb1.out⟩
    · have d0 : decide (k < n) = false := by simpa using hkn
      have HF : Hid (decide ((-1 : Int) ≥ 0) = ms.any (fun x => !isB x.2 x.1)) := Lib.hid (by
        have : ms.any (fun x => !isB x.2 x.1) = false := by
          rw [List.any_eq_false]
          intro x hx
          obtain ⟨j, hj, rfl⟩ := List.getElem_of_mem hx
          simp [Hno.out j hj (by omega)]
        rw [this]; rfl)
      go_wp2_with fail
      go_ret
      exact ⟨-1, rfl, HF.out, Hbel.out⟩
set_option maxRecDepth 100000 in
theorem containsMu (A : Option Addr) (n c : Nat) (ms : List (Int × Int)) (w : World) (hr : MusV w w.heap.size A n c ms) (r : Bool) (hr2 : ms.any (fun x => !isB x.2 x.1) = r) :
    Calls Tryd.prog 54 #[.slice A n c, .func (.func 55) #[] #[]] w fun e w' => e = .returned (.bool r) ∧ Below w.heap.size w w' := by
  have hi := indexMu A n c ms w hr
  rw [hr2] at hi
  have Hi := Lib.hid hi
  clear hi hr hr2
  cases r with
  | true =>
    go_enter Tryd.func54, Tryd.ntmps54
    go_wp2_with fail
    refine Hi.out.mono ?_; rintro e w1 ⟨z, rfl, hz, hb1⟩
    go_wp2_with fail
    go_ret
    exact ⟨rfl, hb1⟩
  | false =>
    go_enter Tryd.func54, Tryd.ntmps54
    go_wp2_with fail
    refine Hi.out.mono ?_; rintro e w1 ⟨z, rfl, hz, hb1⟩
    go_wp2_with fail
    go_ret
    exact ⟨rfl, hb1⟩

end Go.Proofs.YtidamlkekgnhgaaDoor
