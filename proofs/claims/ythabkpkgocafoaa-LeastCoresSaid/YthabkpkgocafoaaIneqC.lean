/- The contract of usufructref03.One. -/
import Derived.Test.YthabkpkgocafoaaIneqA
import Derived.IntWalk
namespace Go.Proofs.Ythabkpkgocafoaa
set_option linter.unusedVariables false
set_option linter.unusedSimpArgs false
open Go.RowKit


theorem okV_cell {w : World} {B : Nat} {A : Option Addr} {n c : Nat} {asg : List Int} {v : Int} (ha : RdI .u8 w B A n c asg) (hv : 0 ≤ v) (ho : okV asg v = true) :
    ∃ b off, ∃ m : Nat, A = some ⟨b, off, none⟩ ∧ v = (m : Int) ∧ m < n ∧ b < B ∧ w.cell? ⟨b, off + m, none⟩ = some (.int .u8 (atK asg v)) := by
  obtain ⟨m, rfl⟩ : ∃ m : Nat, v = (m : Int) := ⟨v.toNat, (Int.toNat_of_nonneg hv).symm⟩
  have hla := ha.len
  have hml : (m : Int) < asg.length := by
    unfold okV at ho
    rw [Bool.and_eq_true] at ho
    exact of_decide_eq_true ho.1
  obtain ⟨b, off, e, hb, hcell⟩ := ha.at_ (by omega)
  refine ⟨b, off, m, e, rfl, by omega, hb, ?_⟩
  have hm' : m < asg.length := by omega
  rw [hcell m hm']
  simp [atK, ho, atV, List.getD, hm']

theorem refOne_any (lv lc c r : Int) (A : Option Addr) (n cp : Nat) (asg : List Int) (w : World) (B : Nat) (ha : RdI .u8 w B A n cp asg) (hB : B ≤ w.heap.size) (hbad : badQ asg lv lc r = false) (hlv : lc = 0 → 0 ≤ lv) :
    Calls Try.prog 48 #[.agg #[.int .i64 lv, .int .u8 lc, .int .u8 c, .int .i64 r], .slice A n cp] w fun e w' => e = .returned (.bool (holdsQ asg lv lc c r)) ∧ Below w.heap.size w w' := by
  have hn63 : n ≤ 9223372036854775807 := Nat.le_trans ha.2.1 ha.2.2
  have hbel : Below w.heap.size w (w.alloc (Obj.cells #[.int .i64 lv, .int .u8 lc, .int .u8 c, .int .i64 r] 31)) := below_box _
  have ha1 := (ha.more hB).below hbel
  have h12 : (lc = 0 → okV asg lv = true) ∧ (0 ≤ r → okV asg r = true) := by
    unfold badQ at hbad
    rw [Bool.or_eq_false_iff] at hbad
    refine ⟨fun h => ?_, fun h => ?_⟩
    · have := hbad.1; rw [show (lc == 0) = true by simp [h]] at this; simpa using this
    · have := hbad.2; rw [decide_eq_true h] at this; simpa using this
  obtain ⟨h1, h2⟩ := h12
  clear hbad
  by_cases h0 : lc = 0
  · subst h0
    obtain ⟨b, off, m, rfl, hm, hmn, hb, hc⟩ := okV_cell ha1 (hlv rfl) (h1 rfl)
    have hleft : leftQ asg lv 0 = atK asg lv := if_pos rfl
    generalize atK asg lv = L at hc hleft
    clear h1 hlv
    subst hm
    by_cases hLc : L ≤ c
    · have H : Hid (true = holdsQ asg m 0 c r) := by
        show _ = _; unfold holdsQ; rw [hleft]; symm; apply decide_eq_true; unfold rightQ; split <;> omega
      clear hleft h2 ha1 ha
      go_enter Try.func48, Try.ntmps48
      go_wp2_with fail
      go_ret
      exact ⟨by rw [← H.out]; rfl, hbel⟩
    · by_cases hr0 : 0 ≤ r
      · obtain ⟨b', off', m', hA, hm', hmn', hb', hc'⟩ := okV_cell ha1 hr0 (h2 hr0)
        have hA' : off' = off ∧ b' = b := by simp at hA; omega
        obtain ⟨rfl, rfl⟩ := hA'
        have hright : rightQ asg c r = max c (atK asg r) := if_pos hr0
        generalize atK asg r = R at hc' hright
        subst hm'
        have H : Hid (decide (L ≤ R) = holdsQ asg m 0 c m') := by
          show _ = _; unfold holdsQ; rw [hleft, hright]; exact decide_eq_decide.2 (by omega)
        clear hleft hright h2 ha1 ha hA
        go_enter Try.func48, Try.ntmps48
        go_wp2_with fail
        go_ret
        exact ⟨by rw [← H.out]; rfl, hbel⟩
      · have H : Hid (false = holdsQ asg m 0 c r) := by
          show _ = _; unfold holdsQ; rw [hleft]; symm; apply decide_eq_false; unfold rightQ; rw [if_neg hr0]; omega
        clear hleft h2 ha1 ha
        go_enter Try.func48, Try.ntmps48
        go_wp2_with fail
        go_ret
        exact ⟨by rw [← H.out]; rfl, hbel⟩
  · have hleft : leftQ asg lv lc = lc := if_neg h0
    have hlc : (lc == 0) = false := by simp [h0]
    clear h1 hlv
    by_cases hLc : lc ≤ c
    · have H : Hid (true = holdsQ asg lv lc c r) := by
        show _ = _; unfold holdsQ; rw [hleft]; symm; apply decide_eq_true; unfold rightQ; split <;> omega
      clear hleft h2 ha1 ha
      go_enter Try.func48, Try.ntmps48
      go_wp2_with fail
      go_ret
      exact ⟨by rw [← H.out]; rfl, hbel⟩
    · by_cases hr0 : 0 ≤ r
      · obtain ⟨b', off', m', rfl, hm', hmn', hb', hc'⟩ := okV_cell ha1 hr0 (h2 hr0)
        have hright : rightQ asg c r = max c (atK asg r) := if_pos hr0
        generalize atK asg r = R at hc' hright
        subst hm'
        have H : Hid (decide (lc ≤ R) = holdsQ asg lv lc c m') := by
          show _ = _; unfold holdsQ; rw [hleft, hright]; exact decide_eq_decide.2 (by omega)
        clear hleft hright h2 ha1 ha
        go_enter Try.func48, Try.ntmps48
        go_wp2_with fail
        go_ret
        exact ⟨by rw [← H.out]; rfl, hbel⟩
      · have H : Hid (false = holdsQ asg lv lc c r) := by
          show _ = _; unfold holdsQ; rw [hleft]; symm; apply decide_eq_false; unfold rightQ; rw [if_neg hr0]; omega
        clear hleft h2 ha1 ha
        go_enter Try.func48, Try.ntmps48
        go_wp2_with fail
        go_ret
        exact ⟨by rw [← H.out]; rfl, hbel⟩

end Go.Proofs.Ythabkpkgocafoaa
