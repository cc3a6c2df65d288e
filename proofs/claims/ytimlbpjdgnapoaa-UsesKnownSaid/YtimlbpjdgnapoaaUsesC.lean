/- Slices of slices of uses; the contract of uses.bad. -/
import Derived.Test.YtimlbpjdgnapoaaUsesB
namespace Go.Proofs.Ytimlbpjdgnapoaa
set_option linter.unusedVariables false
set_option linter.unusedSimpArgs false
open Go.RowKit

/-- a slice of slices of uses -/
def LsV (w : World) (B : Nat) (A : Option Addr) (n c : Nat) (ls : List (List UseD)) : Prop :=
  ls.length = n ∧ n ≤ c ∧ c ≤ maxLen ∧ (0 < n → ∃ b off, A = some ⟨b, off, none⟩ ∧ b < B ∧ ∀ i (h : i < ls.length), ∃ Ai ni ci, w.cell? ⟨b, off + i, none⟩ = some (.slice Ai ni ci) ∧ UsesV w B Ai ni ci ls[i])
section
variable {w w' : World} {B B' : Nat} {A : Option Addr} {n c : Nat} {ls : List (List UseD)}
theorem LsV.keep (h : LsV w B A n c ls) (hk : ∀ p : Addr, p.block < B → w'.cell? p = w.cell? p) : LsV w' B A n c ls := by
  obtain ⟨h1, h2, h3, h4⟩ := h
  refine ⟨h1, h2, h3, fun hn => ?_⟩
  obtain ⟨b, off, e, hb, hc⟩ := h4 hn
  refine ⟨b, off, e, hb, fun i hi => ?_⟩
  obtain ⟨Ai, ni, ci, e1, e2⟩ := hc i hi
  exact ⟨Ai, ni, ci, (hk _ hb).trans e1, e2.keep hk⟩
theorem LsV.more (h : LsV w B A n c ls) (hB : B ≤ B') : LsV w B' A n c ls := by
  obtain ⟨h1, h2, h3, h4⟩ := h
  refine ⟨h1, h2, h3, fun hn => ?_⟩
  obtain ⟨b, off, e, hb, hc⟩ := h4 hn
  refine ⟨b, off, e, by omega, fun i hi => ?_⟩
  obtain ⟨Ai, ni, ci, e1, e2⟩ := hc i hi
  exact ⟨Ai, ni, ci, e1, e2.more hB⟩
theorem LsV.below (h : LsV w B A n c ls) (hb : Below B w w') : LsV w' B A n c ls := h.keep fun _ hp => hb.cell hp
theorem LsV.len (h : LsV w B A n c ls) : ls.length = n := h.1
theorem LsV.at_ (h : LsV w B A n c ls) (hn : 0 < n) : ∃ b off, A = some ⟨b, off, none⟩ ∧ b < B ∧ ∀ i (h : i < ls.length), ∃ Ai ni ci, w.cell? ⟨b, off + i, none⟩ = some (.slice Ai ni ci) ∧ UsesV w B Ai ni ci ls[i] := h.2.2.2 hn
end

theorem bad1_any (A : Option Addr) (n c : Nat) (xs : List UseD) (m : Bool) (hm : mayU xs = m) (w : World) (hx : UsesV w w.heap.size A n c xs) :
    Calls Try.prog 81 #[.slice A n c] w fun e w' => e = .returned (.bool (!m)) ∧ Below w.heap.size w w' := by
  have hM := usesMay_any A n c xs w hx
  cases m with
  | true =>
    rw [mayUE_yes hm] at hM
    have HM := Lib.hid hM
    clear hM hx hm
    go_enter Try.func81, Try.ntmps81
    go_wp2_with fail
    refine HM.out.mono ?_; rintro e w1 ⟨rfl, hb1⟩
    go_wp2_with fail
    go_ret
    exact ⟨rfl, hb1⟩
  | false =>
    rw [mayUE_no hm] at hM
    have HM := Lib.hid hM
    clear hM hx hm
    go_enter Try.func81, Try.ntmps81
    go_wp2_with fail
    refine HM.out.mono ?_; rintro e w1 ⟨rfl, hb1⟩
    go_wp2_with fail
    go_ret
    exact ⟨rfl, hb1⟩

set_option maxHeartbeats 1000000 in
theorem indexU_any (A : Option Addr) (n c : Nat) (ls : List (List UseD)) (w : World) (hr : LsV w w.heap.size A n c ls) :
    Calls Try.prog 99 #[.slice A n c, .func (.func 81) #[] #[]] w fun e w' => ∃ z : Int, e = .returned (.int .i64 z) ∧ decide (z ≥ 0) = ls.any (fun x => !mayU x) ∧ Below w.heap.size w w' := by
  have hlen := hr.len
  have n63 : n ≤ 9223372036854775807 := Nat.le_trans hr.2.1 hr.2.2.1
  have Hr := Lib.hid hr
  clear hr
  go_enter Try.func99, Try.ntmps99
  go_wp2_with fail
  go_loopg [5, 8] n (fun g _ i wr => ∃ k : Nat, k ≤ n ∧ g = n - k ∧ i = .int .i64 k ∧ (∀ j (h : j < ls.length), j < k → mayU ls[j] = true) ∧ Below w.heap.size w wr)
  case atStart => exact ⟨0, Nat.zero_le _, rfl, rfl, fun j _ h => absurd h (by omega), Below.refl _ _⟩
  case round =>
    obtain ⟨k, hk, rfl, rfl, hno, hbel⟩ := hrel
    have Hno := Lib.hid hno
    have Hbel := Lib.hid hbel
    clear hno
    by_cases hlt : k < n
    · obtain ⟨b', off, rfl, hb', hcell⟩ := (Hr.out.below hbel).at_ (by omega)
      have hk' : k < ls.length := by omega
      obtain ⟨Ai, ni, ci, e0, hu⟩ := hcell k hk'
      have Hu := Lib.hid (hu.more hbel.size)
      have i1 : (0 : Int) ≤ (k : Int) := by omega
      have i2 : (k : Int) < n := by omega
      clear hcell hu hbel
      cases hm : mayU ls[k]
      · have HF : Hid (ls.any (fun x => !mayU x) = true) := List.any_eq_true.2 ⟨_, List.getElem_mem hk', by rw [hm]; rfl⟩
        have Hm := Lib.hid hm
        clear hm
        go_wp2_with fail
        refine (bad1_any Ai ni ci ls[k] false Hm.out wr Hu.out).mono ?_; rintro e w1 ⟨rfl, hb1⟩
        have hw1 := Hbel.out.trans (hb1.mono Hbel.out.size)
        clear hb1
        go_wp2_with fail
        go_ret
        exact ⟨_, rfl, by rw [HF.out]; simp, hw1⟩
      · have Hm := Lib.hid hm
        clear hm
        go_wp2_with fail
        refine (bad1_any Ai ni ci ls[k] true Hm.out wr Hu.out).mono ?_; rintro e w1 ⟨rfl, hb1⟩
        have hw1 := Hbel.out.trans (hb1.mono Hbel.out.size)
        clear hb1
        go_wp2_with fail
        go_roundg (n - (k + 1))
        case measure => omega
        case rel =>
          refine ⟨k + 1, by omega, rfl, by go_num, fun j hj hjk => ?_, hw1⟩
          rcases Nat.lt_or_ge j k with h | h
          · exact Hno.out j hj h
          · have : j = k := by omega
            subst this
            exact Hm.out
    · have HF : Hid (ls.any (fun x => !mayU x) = false) := by
        show _ = _
        rw [List.any_eq_false]
        intro x hx
        obtain ⟨j, hj, rfl⟩ := List.getElem_of_mem hx
        rw [Hno.out j hj (by omega)]; simp
      clear hbel
      go_wp2_with fail
      go_ret
      exact ⟨-1, rfl, by rw [HF.out]; simp, Hbel.out⟩

theorem bad_any (A : Option Addr) (n c : Nat) (ls : List (List UseD)) (w : World) (hr : LsV w w.heap.size A n c ls) :
    Calls Try.prog 68 #[.slice A n c] w fun e w' => e = .returned (.bool (ls.any (fun x => !mayU x))) ∧ Below w.heap.size w w' := by
  have hc : Calls Try.prog 80 #[.slice A n c, .func (.func 81) #[] #[]] w fun e w' => e = .returned (.bool (ls.any (fun x => !mayU x))) ∧ Below w.heap.size w w' := by
    go_enter Try.func80, Try.ntmps80
    go_wp2_with fail
    refine (indexU_any A n c ls _ hr).mono ?_; rintro e w1 ⟨z, rfl, hz, hb1⟩
    have HZ := Lib.hid hz
    clear hz
    go_wp2_with fail
    go_ret
    exact ⟨by rw [← HZ.out]; rfl, hb1⟩
  have Hc := Lib.hid hc
  clear hc hr
  obtain ⟨m, hm⟩ : ∃ m, ls.any (fun x => !mayU x) = m := ⟨_, rfl⟩
  rw [hm] at Hc ⊢
  clear hm
  go_enter Try.func68, Try.ntmps68
  go_wp2_with fail
  refine Hc.out.mono ?_; rintro e w1 ⟨rfl, hb1⟩
  go_wp2_with fail
  go_ret
  exact ⟨rfl, hb1⟩

end Go.Proofs.Ytimlbpjdgnapoaa
