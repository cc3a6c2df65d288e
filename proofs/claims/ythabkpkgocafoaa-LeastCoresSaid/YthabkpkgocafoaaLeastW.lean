/- Plain: what a raise does to other inequalities. -/
import Derived.Test.YthabkpkgocafoaaLeastP
namespace Go.Proofs.Ythabkpkgocafoaa
set_option linter.unusedVariables false
set_option linter.unusedSimpArgs false

/-- whose left side is another's stays kept -/
theorem keepsL_other {is : List Int} {r : Nat} {L : Int} {y : IneqD} (h : keepsL is y) (hne : y.lc = 0 → y.lv.toNat ≠ r) (hL : is.getD r 0 ≤ L) (hr : r < is.length) : keepsL (is.set r L) y := by
  intro hy
  have h1 := h hy
  rw [leftL_set y hr, if_neg (fun e => hne e.1 e.2.symm), getD_set _ _ _ _ _ hr]
  split
  · rename_i e; subst e; omega
  · exact h1
/-- the raised one is kept -/
theorem keepsL_self {is : List Int} {x : IneqD} (hb : raiseB is x = true) (hr : x.r.toNat < is.length) : keepsL (is.set x.r.toNat (leftL is x)) x := by
  intro hx
  obtain ⟨h0, h1⟩ := (raiseB_iff _ _).1 hb
  have hne : ¬ (x.lc = 0 ∧ x.r.toNat = x.lv.toNat) := by
    rintro ⟨e0, e1⟩
    have : leftL is x = is.getD x.r.toNat 0 := by unfold leftL; rw [if_pos e0, e1]
    omega
  rw [leftL_set x hr, if_neg hne, getD_set _ _ _ _ _ hr, if_pos rfl]
  omega

/-- loop 1: what is done behind the first j inequalities -/
structure FirstL (xs : List IneqD) (is : List Int) (fr : Nat → List Int) (j : Nat) : Prop where
  consts : ∀ i, i < j → ∀ x, xs[i]? = some x → x.lc ≠ 0 → keepsL is x
  froms : ∀ i, i < j → ∀ x, xs[i]? = some x → x.lc = 0 → (i : Int) ∈ fr x.lv.toNat
  mem : ∀ v, ∀ z ∈ fr v, ∃ (i : Nat) (x : IneqD), z = (i : Int) ∧ xs[i]? = some x ∧ x.lc = 0 ∧ x.lv.toNat = v
theorem FirstL.start (xs : List IneqD) (is : List Int) : FirstL xs is (fun _ => []) 0 :=
  ⟨fun i h => absurd h (Nat.not_lt_zero _), fun i h => absurd h (Nat.not_lt_zero _), fun v z hz => by cases hz⟩
theorem FirstL.var {xs : List IneqD} {is : List Int} {fr : Nat → List Int} {j : Nat} {x : IneqD} (h : FirstL xs is fr j) (hx : xs[j]? = some x) (h0 : x.lc = 0) : FirstL xs is (fun k => if k = x.lv.toNat then fr x.lv.toNat ++ [(j : Int)] else fr k) (j + 1) := by
  refine ⟨fun i hi y hy hc => ?_, fun i hi y hy hc => ?_, fun v z hz => ?_⟩
  · by_cases e : i = j
    · subst e; rw [hx] at hy; cases hy; exact absurd h0 hc
    · exact h.consts i (by omega) y hy hc
  · by_cases e : i = j
    · subst e; rw [hx] at hy; cases hy; simp
    · have := h.froms i (by omega) y hy hc
      split
      · rename_i q; rw [← q]; exact List.mem_append.2 (Or.inl this)
      · exact this
  · split at hz
    · rename_i q
      rcases List.mem_append.1 hz with hz | hz
      · rw [q]; exact h.mem _ z hz
      · simp only [List.mem_singleton] at hz
        exact ⟨j, x, hz, hx, h0, q.symm⟩
    · exact h.mem v z hz
/-- a const inequality, raised or not -/
theorem FirstL.const {xs : List IneqD} {is : List Int} {fr : Nat → List Int} {j : Nat} {x : IneqD} (h : FirstL xs is fr j) (hx : xs[j]? = some x) (h0 : x.lc ≠ 0) (hr : x.r < is.length) : FirstL xs (if raiseB is x = true then is.set x.r.toNat (leftL is x) else is) fr (j + 1) := by
  refine ⟨fun i hi y hy hc => ?_, fun i hi y hy hc => ?_, h.mem⟩
  · cases hb : raiseB is x with
    | false =>
      simp only [Bool.false_eq_true, if_false]
      by_cases e : i = j
      · subst e; rw [hx] at hy; cases hy; exact raiseB_not _ _ hb
      · exact h.consts i (by omega) y hy hc
    | true =>
      simp only [if_true]
      obtain ⟨q0, q1⟩ := (raiseB_iff _ _).1 hb
      have hrn : x.r.toNat < is.length := by omega
      by_cases e : i = j
      · subst e; rw [hx] at hy; cases hy; exact keepsL_self hb hrn
      · exact keepsL_other (h.consts i (by omega) y hy hc) (fun z => absurd z hc) (by omega) hrn
  · by_cases e : i = j
    · subst e; rw [hx] at hy; cases hy; exact absurd hc h0
    · exact h.froms i (by omega) y hy hc

/-- loop 3: what is not kept waits, or is still to come in this round -/
structure WaitL (xs : List IneqD) (is : List Int) (flags : List Bool) (v : Nat) (rest : List Int) : Prop where
  consts : ∀ x ∈ xs, x.lc ≠ 0 → keepsL is x
  vars : ∀ (i : Nat) x, xs[i]? = some x → x.lc = 0 → keepsL is x ∨ flags.getD x.lv.toNat false = true ∨ (x.lv.toNat = v ∧ (i : Int) ∈ rest)
theorem WaitL.round {xs : List IneqD} {is is0 : List Int} {flags flags' : List Bool} {v0 v : Nat} {fr : Nat → List Int} (h : WaitL xs is flags v0 []) (hf : ∀ u, u ≠ v → flags'.getD u false = flags.getD u false) (hfr : FirstL xs is0 fr xs.length) : WaitL xs is flags' v (fr v) := by
  refine ⟨h.consts, fun i x hi h0 => ?_⟩
  rcases h.vars i x hi h0 with a | a | ⟨_, a⟩
  · exact Or.inl a
  · by_cases e : x.lv.toNat = v
    · refine Or.inr (Or.inr ⟨e, ?_⟩)
      have := hfr.froms i (List.getElem?_eq_some_iff.1 hi).1 x hi h0
      rwa [e] at this
    · exact Or.inr (Or.inl (by rw [hf _ e]; exact a))
  · cases a
theorem WaitL.skip {xs : List IneqD} {is : List Int} {flags : List Bool} {v j : Nat} {t : List Int} {x : IneqD} (h : WaitL xs is flags v ((j : Int) :: t)) (hx : xs[j]? = some x) (hb : raiseB is x = false) : WaitL xs is flags v t := by
  refine ⟨h.consts, fun i y hi h0 => ?_⟩
  rcases h.vars i y hi h0 with a | a | ⟨a, b⟩
  · exact Or.inl a
  · exact Or.inr (Or.inl a)
  · rcases List.mem_cons.1 b with e | e
    · have : i = j := by omega
      subst this
      rw [hx] at hi; cases hi
      exact Or.inl (raiseB_not _ _ hb)
    · exact Or.inr (Or.inr ⟨a, e⟩)
theorem WaitL.raised {xs : List IneqD} {is : List Int} {flags flags' : List Bool} {v j : Nat} {t : List Int} {x : IneqD} (h : WaitL xs is flags v ((j : Int) :: t)) (hx : xs[j]? = some x) (hb : raiseB is x = true) (hr : x.r < is.length) (hf : ∀ u, flags'.getD u false = true ↔ flags.getD u false = true ∨ u = x.r.toNat) : WaitL xs (is.set x.r.toNat (leftL is x)) flags' v t := by
  obtain ⟨q0, q1⟩ := (raiseB_iff _ _).1 hb
  have hrn : x.r.toNat < is.length := by omega
  refine ⟨fun y hy hc => keepsL_other (h.consts y hy hc) (fun z => absurd z hc) (by omega) hrn, fun i y hi h0 => ?_⟩
  by_cases e : y.lv.toNat = x.r.toNat
  · exact Or.inr (Or.inl ((hf _).2 (Or.inr e)))
  · rcases h.vars i y hi h0 with a | a | ⟨a, b⟩
    · exact Or.inl (keepsL_other a (fun _ => e) (by omega) hrn)
    · exact Or.inr (Or.inl ((hf _).2 (Or.inl a)))
    · rcases List.mem_cons.1 b with e' | e'
      · have : i = j := by omega
        subst this
        rw [hx] at hi; cases hi
        exact Or.inl (keepsL_self hb hrn)
      · exact Or.inr (Or.inr ⟨a, e'⟩)

/-- how far the variables can still be raised -/
def slackL (is : List Int) : Nat := (is.map fun x => (3 - x).toNat).sum
theorem slackL_set : ∀ (is : List Int) (k : Nat) (L : Int), k < is.length → is.getD k 0 < L → L ≤ 3 → slackL (is.set k L) + 1 ≤ slackL is
  | [], k, L, h, _, _ => absurd h (by simp)
  | x :: t, 0, L, h, h1, h2 => by
    simp only [List.getD_cons_zero] at h1
    simp only [slackL, List.set_cons_zero, List.map_cons, List.sum_cons]
    omega
  | x :: t, k + 1, L, h, h1, h2 => by
    have := slackL_set t k L (by simpa using h) (by simpa using h1) h2
    simp only [slackL, List.set_cons_succ, List.map_cons, List.sum_cons] at this ⊢
    omega
theorem slackL_raise {is : List Int} {x : IneqD} {n : Nat} (hx : OverL n x) (hl : is.length = n) (ht : ∀ v, v < n → is.getD v 0 ≤ 3) (hb : raiseB is x = true) : slackL (is.set x.r.toNat (leftL is x)) + 1 ≤ slackL is := by
  obtain ⟨q0, q1⟩ := (raiseB_iff _ _).1 hb
  have := hx.r
  exact slackL_set is _ _ (by omega) (by omega) (leftL_top hx ht)
theorem WaitL.done {xs : List IneqD} {is : List Int} {flags : List Bool} {v : Nat} (h : WaitL xs is flags v []) (hf : ∀ u, flags.getD u false = false) : ∀ x ∈ xs, keepsL is x := by
  intro x hx
  by_cases h0 : x.lc = 0
  · obtain ⟨i, hi⟩ := List.getElem?_of_mem hx
    rcases h.vars i x hi h0 with a | a | ⟨_, a⟩
    · exact a
    · rw [hf] at a; cases a
    · cases a
  · exact h.consts x hx h0

end Go.Proofs.Ythabkpkgocafoaa
