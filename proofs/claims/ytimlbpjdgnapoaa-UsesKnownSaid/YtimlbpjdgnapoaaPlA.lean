/- Plain facts on lists that rise. No program's function. -/
import Derived.Test.YtimlbpjdgnapoaaTermDef
namespace Go.Proofs.Ytimlbpjdgnapoaa
set_option linter.unusedVariables false
set_option linter.unusedSimpArgs false
open Go Go.RowKit

/-! Plain facts on lists that rise. No program. -/
/-- a list that rises -/
def Rises (l : List Int) : Prop := l.Pairwise (· < ·)
theorem rises_ext : ∀ (a b : List Int), Rises a → Rises b → (∀ x, x ∈ a ↔ x ∈ b) → a = b
  | [], [], _, _, _ => rfl
  | [], y :: b, _, _, h => by have := (h y).2 (by simp); simp at this
  | x :: a, [], _, _, h => by have := (h x).1 (by simp); simp at this
  | x :: a, y :: b, ha, hb, h => by
    obtain ⟨ha1, ha2⟩ := List.pairwise_cons.1 ha
    obtain ⟨hb1, hb2⟩ := List.pairwise_cons.1 hb
    have hxy : x = y := by
      rcases List.mem_cons.1 ((h x).1 (by simp)) with e | hx
      · exact e
      · rcases List.mem_cons.1 ((h y).2 (by simp)) with e | hy
        · exact e.symm
        · have h1 := hb1 x hx
          have h2 := ha1 y hy
          omega
    subst hxy
    congr 1
    refine rises_ext a b ha2 hb2 fun z => ⟨fun hz => ?_, fun hz => ?_⟩
    · rcases List.mem_cons.1 ((h z).1 (List.mem_cons_of_mem _ hz)) with e | hz'
      · have := ha1 z hz; omega
      · exact hz'
    · rcases List.mem_cons.1 ((h z).2 (List.mem_cons_of_mem _ hz)) with e | hz'
      · have := hb1 z hz; omega
      · exact hz'

theorem compactUpTo_facts (l : List Int) (hs : l.Pairwise (· ≤ ·)) : ∀ m, m ≤ l.length →
    Rises (Lib.compactUpTo l.toArray m) ∧ (∀ x, x ∈ Lib.compactUpTo l.toArray m ↔ x ∈ l.take m) ∧ ∀ x ∈ Lib.compactUpTo l.toArray m, 0 < m ∧ x ≤ l.getD (m - 1) 0
  | 0, _ => by simp [Lib.compactUpTo, Rises]
  | m + 1, hm => by
    obtain ⟨h1, h2, h3⟩ := compactUpTo_facts l hs m (by omega)
    have hlt : m < l.length := by omega
    have hget : l.toArray[m]! = l[m] := by simp [hlt]
    have hgd : l.getD m 0 = l[m] := by simp [List.getD, hlt]
    rw [Lib.compactUpTo_succ]
    have htk : l.take (m + 1) = l.take m ++ [l[m]] := List.take_succ_eq_append_getElem hlt
    have hle : ∀ x ∈ Lib.compactUpTo l.toArray m, x ≤ l[m] := by
      intro x hx
      obtain ⟨hp, hx1⟩ := h3 x hx
      have hm1 : m - 1 < l.length := by omega
      rw [show l.getD (m - 1) 0 = l[m - 1] from by simp [List.getD, hm1]] at hx1
      have := List.pairwise_iff_getElem.1 hs (m - 1) m hm1 hlt (by omega)
      omega
    by_cases hk : Lib.keeps l.toArray m = true
    · rw [if_pos hk, hget]
      have hlast : ∀ x ∈ Lib.compactUpTo l.toArray m, x < l[m] := by
        intro x hx
        obtain ⟨hp, hx1⟩ := h3 x hx
        have hm1 : m - 1 < l.length := by omega
        rw [show l.getD (m - 1) 0 = l[m - 1] from by simp [List.getD, hm1]] at hx1
        have hne : l[m] ≠ l[m - 1] := by
          have := of_decide_eq_true hk
          rcases this with h | h
          · omega
          · rw [hget, show l.toArray[m - 1]! = l[m - 1] from by simp [hm1]] at h
            exact h
        have := List.pairwise_iff_getElem.1 hs (m - 1) m hm1 hlt (by omega)
        omega
      refine ⟨?_, fun x => ?_, fun x hx => ⟨by omega, ?_⟩⟩
      · refine List.pairwise_append.2 ⟨h1, by simp, fun a ha b hb => ?_⟩
        rw [List.mem_singleton] at hb
        subst hb
        exact hlast a ha
      · rw [htk, List.mem_append, List.mem_append, h2]
      · rw [Nat.add_sub_cancel, hgd]
        rcases List.mem_append.1 hx with h | h
        · exact hle x h
        · rw [List.mem_singleton] at h; omega
    · rw [if_neg hk, List.append_nil]
      have hk' : Lib.keeps l.toArray m = false := by simpa using hk
      have hp : 0 < m ∧ l[m] = l[m - 1]'(by omega) := by
        have := of_decide_eq_false hk'
        rw [not_or, Decidable.not_not] at this
        have hm1 : m - 1 < l.length := by omega
        rw [hget, show l.toArray[m - 1]! = l[m - 1] from by simp [hm1]] at this
        exact ⟨by omega, this.2⟩
      refine ⟨h1, fun x => ?_, fun x hx => ⟨by omega, ?_⟩⟩
      · rw [htk, List.mem_append, h2, List.mem_singleton]
        refine ⟨.inl, fun h => ?_⟩
        rcases h with h | h
        · exact h
        · subst h
          rw [hp.2, List.mem_take_iff_getElem]
          exact ⟨m - 1, by omega, rfl⟩
      · rw [Nat.add_sub_cancel, hgd]
        exact hle x hx

theorem sset_rises (l : List Int) : Rises (sset l) ∧ ∀ x, x ∈ sset l ↔ x ∈ l := by
  have hs : (l.mergeSort fun x y => decide (x ≤ y)).Pairwise (· ≤ ·) := by
    have := List.pairwise_mergeSort (le := fun x y : Int => decide (x ≤ y)) (fun a b c h1 h2 => by simp at *; omega) (fun a b => by simp; omega) l
    exact this.imp fun h => by simpa using h
  obtain ⟨h1, h2, _⟩ := compactUpTo_facts _ hs _ (Nat.le_refl _)
  refine ⟨h1, fun x => ?_⟩
  rw [List.take_of_length_le (Nat.le_refl _)] at h2
  exact (h2 x).trans List.mem_mergeSort
theorem sset_eq {l m : List Int} (hm : Rises m) (h : ∀ x, x ∈ m ↔ x ∈ l) : sset l = m :=
  rises_ext _ _ (sset_rises l).1 hm fun x => ((sset_rises l).2 x).trans (h x).symm
theorem sset_self {l : List Int} (hl : Rises l) : sset l = l := sset_eq hl fun _ => Iff.rfl
theorem sset_nil : sset [] = [] := sset_self List.Pairwise.nil
theorem sset_congr {l m : List Int} (h : ∀ x, x ∈ l ↔ x ∈ m) : sset l = sset m := sset_eq (sset_rises m).1 fun x => ((sset_rises m).2 x).trans (h x).symm
theorem sset_ne {l : List Int} (h : l ≠ []) : sset l ≠ [] := by
  intro e
  cases l with
  | nil => exact h rfl
  | cons x r =>
    have := ((sset_rises (x :: r)).2 x).2 (by simp)
    rw [e] at this
    simp at this

/-- May, said plainly -/
theorem may_iff (t : TermD) : mayB t = true ↔ (t.never = true ∧ t.c = 0 ∧ t.vars = []) ∨ (t.never = false ∧ 1 ≤ t.c ∧ t.c ≤ 3 ∧ (t.c = 3 → t.vars = []) ∧ Rises t.vars ∧ ∀ v ∈ t.vars, 0 ≤ v ∧ v < 1048576) := by
  obtain ⟨nv, c, l⟩ := t
  have hv : ∀ n, n ≤ l.length → (varsB l n = true ↔ Rises (l.take n) ∧ ∀ v ∈ l.take n, 0 ≤ v ∧ v < 1048576) := by
    intro n
    induction n with
    | zero => intro _; simp [varsB, Rises]
    | succ n ih =>
      intro hn
      have hlt : n < l.length := by omega
      have hgd : l.getD n 0 = l[n] := by simp [List.getD, hlt]
      rw [varsB, Bool.and_eq_true, ih (by omega), List.take_succ_eq_append_getElem hlt]
      unfold varB
      rw [hgd]
      simp only [Bool.and_eq_true, Bool.or_eq_true, decide_eq_true_eq]
      constructor
      · rintro ⟨⟨h1, h2⟩, ⟨h3, h4⟩, h5⟩
        refine ⟨List.pairwise_append.2 ⟨h1, by simp, fun a ha b hb => ?_⟩, fun v hv => ?_⟩
        · rw [List.mem_singleton] at hb
          subst hb
          obtain ⟨i, hi, rfl⟩ := List.mem_take_iff_getElem.1 ha
          have hi' : i < n := by omega
          rcases h5 with h5 | h5
          · omega
          · have hn1 : n - 1 < l.length := by omega
            rw [show l.getD (n - 1) 0 = l[n - 1] from by simp [List.getD, hn1]] at h5
            rcases Nat.lt_or_ge i (n - 1) with hlt' | hge
            · have := List.pairwise_iff_getElem.1 h1 i (n - 1) (by simp; omega) (by simp; omega) hlt'
              simp at this
              omega
            · have : i = n - 1 := by omega
              subst this
              exact h5
        · rcases List.mem_append.1 hv with h | h
          · exact h2 v h
          · rw [List.mem_singleton] at h; subst h; exact ⟨h3, h4⟩
      · rintro ⟨h1, h2⟩
        obtain ⟨p1, _, p3⟩ := List.pairwise_append.1 h1
        refine ⟨⟨p1, fun v hv => h2 v (List.mem_append_left _ hv)⟩, h2 _ (List.mem_append_right _ (List.mem_singleton.2 rfl)), ?_⟩
        rcases Nat.eq_zero_or_pos n with h | h
        · exact .inl h
        · have hn1 : n - 1 < l.length := by omega
          rw [show l.getD (n - 1) 0 = l[n - 1] from by simp [List.getD, hn1]]
          exact .inr (p3 _ (List.mem_take_iff_getElem.2 ⟨n - 1, by omega, rfl⟩) _ (by simp))
  unfold mayB oneB
  cases nv
  · simp only [Bool.false_eq_true, if_false, false_and, false_or, Bool.and_eq_true, decide_eq_true_eq]
    rw [hv _ (Nat.le_refl _), List.take_of_length_le (Nat.le_refl _)]
    simp only [Bool.not_eq_true', Bool.and_eq_false_iff, beq_eq_false_iff_ne, Bool.not_eq_false', List.isEmpty_iff]
    constructor
    · rintro ⟨⟨⟨h1, h2⟩, h3⟩, h4, h5⟩
      exact ⟨trivial, h1, h2, fun e => h3.resolve_left (fun h => h e), h4, h5⟩
    · rintro ⟨_, h1, h2, h3, h4, h5⟩
      refine ⟨⟨⟨h1, h2⟩, ?_⟩, h4, h5⟩
      by_cases e : c = 3
      · exact .inr (h3 e)
      · exact .inl e
  · simp

end Go.Proofs.Ytimlbpjdgnapoaa
