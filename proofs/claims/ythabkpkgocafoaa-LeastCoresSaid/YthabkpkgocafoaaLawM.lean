/- Plain laws for LeastBelow and LeastAgain. -/
import Derived.Test.YthabkpkgocafoaaLawL
import Derived.Test.YthabkpkgocafoaaIneqE
namespace Go.Proofs.Ythabkpkgocafoaa
set_option linter.unusedVariables false
set_option linter.unusedSimpArgs false

/-- where there is a solution Solve tells the least one -/
theorem SolveR.solv {n : Nat} {low : List Int} {xs : List IneqD} {a core b : List Int} {e : Int} (h : SolveR (n : Int) low xs a core e) (hn : n ≤ 1048576) (hl : xs.length ≤ 1048576) (hok : OkS (n : Int) low xs) (hb : SolvL xs (low0 n low) b) : e = 0 ∧ core = [] ∧ LeastSolL xs (low0 n low) a := by
  rcases h with ⟨h1, _⟩ | ⟨_, _, h1, _⟩ | ⟨_, _, _, is, why, hE, h1⟩
  · omega
  · exact absurd hok h1
  · rcases h1 with ⟨i, x, l, hi, hr, hc, _⟩ | ⟨hn0, rfl, rfl, rfl⟩
    · exact absurd hb (hE.inv.clash (List.mem_of_getElem? hi) (hE.over x (List.mem_of_getElem? hi)) hr hc b)
    · exact ⟨rfl, rfl, hE.ok hn0⟩
/-- what Solve's OK tells -/
theorem SolveR.zero {n : Int} {low : List Int} {xs : List IneqD} {a core : List Int} {e : Int} (h : SolveR n low xs a core e) (he : e = 0) : n ≤ 1048576 ∧ xs.length ≤ 1048576 ∧ OkS n low xs ∧ LeastSolL xs (low0 n low) a ∧ core = [] := by
  rcases h with ⟨_, _, _, h1⟩ | ⟨_, _, _, _, _, h1⟩ | ⟨q1, q2, h1, is, why, hE, h2⟩
  · omega
  · omega
  · rcases h2 with ⟨i, x, l, hi, hr, hc, _, _, _, h3⟩ | ⟨hn0, rfl, rfl, _⟩
    · omega
    · exact ⟨q1, q2, h1, hE.ok hn0, rfl⟩

theorem firstGo_neg : ∀ (asg : List Int) (xs : List IneqD) (i : Int), 0 ≤ i → ((firstGo asg xs i < 0 → ∀ x ∈ xs, holdsX asg x = true) ∧ ((∀ x ∈ xs, holdsX asg x = true) → firstGo asg xs i = -1))
  | asg, [], i, hi => ⟨fun _ x hx => absurd hx (by simp), fun _ => rfl⟩
  | asg, x :: r, i, hi => by
    have ih := firstGo_neg asg r (i + 1) (by omega)
    unfold firstGo
    split
    · rename_i h
      refine ⟨fun q y hy => ?_, fun q => ih.2 fun y hy => q y (List.mem_cons_of_mem _ hy)⟩
      rcases List.mem_cons.1 hy with rfl | hy
      · exact h
      · exact ih.1 q y hy
    · rename_i h
      exact ⟨fun q => by omega, fun q => absurd (q x List.mem_cons_self) h⟩
theorem holdsAll_neg {asg : List Int} {xs : List IneqD} (h1 : (holdsAll asg xs).1 < 0) : (∀ x ∈ xs, mayX x = true) ∧ (∀ x ∈ xs, badX asg x = false) ∧ ∀ x ∈ xs, holdsX asg x = true := by
  unfold holdsAll at h1
  split at h1
  · rename_i q1
    split at h1
    · simp at h1
    · rename_i q2
      exact ⟨fun x hx => List.all_eq_true.1 q1 x hx, fun x hx => by
        have := List.any_eq_false.1 (by simpa using q2) x hx
        simpa using this, (firstGo_neg asg xs 0 (Int.le_refl _)).1 h1⟩
  · simp at h1
theorem holdsAll_yes {asg : List Int} {xs : List IneqD} (h1 : ∀ x ∈ xs, mayX x = true) (h2 : ∀ x ∈ xs, badX asg x = false) (h3 : ∀ x ∈ xs, holdsX asg x = true) : holdsAll asg xs = (-1, 0) := by
  unfold holdsAll
  rw [if_pos (List.all_eq_true.2 h1), if_neg (by
    rw [Bool.not_eq_true, List.any_eq_false]
    intro x hx
    rw [h2 x hx]; simp), (firstGo_neg asg xs 0 (Int.le_refl _)).2 h3]

/-- what LeastBelow's guards tell -/
theorem below_ok {N : Nat} {low asg : List Int} {xs : List IneqD} (hl : asg.length = N) (hlen : low = [] ∨ low.length = N) (h1 : (holdsAll asg xs).1 < 0) (hr : ∀ (i : Nat) (h : i < asg.length), 1 ≤ asg[i] ∧ asg[i] ≤ 3) (hlw : ∀ (i : Nat) (h : i < low.length) (h2 : i < asg.length), 1 ≤ low[i] ∧ low[i] ≤ asg[i]) :
    OkS (N : Int) low xs ∧ SolvL xs (low0 N low) asg := by
  obtain ⟨m1, m2, m3⟩ := holdsAll_neg h1
  have hmay : ∀ x ∈ xs, mayL x (N : Int) = true := fun x hx => by
    have a := m1 x hx
    have b := m2 x hx
    unfold badX badQ at b
    simp only [Bool.or_eq_false_iff, Bool.and_eq_false_iff] at b
    unfold mayL
    rw [a]
    simp only [Bool.true_and, Bool.and_eq_true, Bool.or_eq_true, decide_eq_true_eq, bne_iff_ne, ne_eq]
    have okv : ∀ v, okV asg v = true → v < N := fun v h => by
      unfold okV at h
      simp only [Bool.and_eq_true, decide_eq_true_eq] at h
      omega
    constructor
    · by_cases h0 : x.lc = 0
      · right
        rcases b.1 with q | q
        · simp [h0] at q
        · exact okv _ (by simpa using q)
      · exact Or.inl h0
    · rcases b.2 with q | q
      · have : x.r < 0 := by simpa using q
        omega
      · exact okv _ (by simpa using q)
  have hok : OkS (N : Int) low xs := ⟨by omega, hlen.imp_right (fun h => by omega), hmay, fun z hz => by
    obtain ⟨i, hi, rfl⟩ := List.getElem_of_mem hz
    have hi2 : i < asg.length := by
      rcases hlen with h | h
      · rw [h] at hi; simp at hi
      · omega
    have := hlw i hi hi2
    have := hr i hi2
    omega⟩
  refine ⟨hok, by rw [low0_len hok]; exact hl, fun v hv => ?_, fun x hx => ?_⟩
  · rw [low0_len hok] at hv
    have hv2 : v < asg.length := by omega
    have e1 : asg.getD v 0 = asg[v] := by rw [List.getD_eq_getElem?_getD, List.getElem?_eq_getElem hv2]; rfl
    rw [e1]
    unfold low0
    split
    · have : (List.replicate ((N : Int).toNat) (1 : Int)).getD v 0 = 1 := by simp [List.getD, hv]
      rw [this]
      exact (hr v hv2).1
    · rename_i hne
      have hv3 : v < low.length := by
        rcases hlen with h | h
        · exact absurd h hne
        · omega
      rw [List.getD_eq_getElem?_getD, List.getElem?_eq_getElem hv3]
      exact (hlw v hv3 hv2).2
  · have hov := OverL.of_may (hmay x hx)
    refine (holdsQ_iff hov hl fun v hv => ?_).2.1 (m3 x hx)
    have hv2 : v < asg.length := by omega
    rw [List.getD_eq_getElem?_getD, List.getElem?_eq_getElem hv2]
    exact hr v hv2
/-- a least solution lies in 1..3 -/
theorem LeastSolL.rng {N : Nat} {low : List Int} {xs : List IneqD} {a asg : List Int} (hok : OkS (N : Int) low xs) (h : LeastSolL xs (low0 N low) a) (ha : SolvL xs (low0 N low) asg) (hr : ∀ v, v < N → asg.getD v 0 ≤ 3) : ∀ v, v < N → 1 ≤ a.getD v 0 ∧ a.getD v 0 ≤ 3 := fun v hv => by
  have h1 := h.least asg ha v (by rw [low0_len hok]; exact hv)
  have h2 := h.sol.low v (by rw [low0_len hok]; exact hv)
  have h3 := low0_rng hok _ (getD_mem (l := low0 N low) (by rw [low0_len hok]; exact hv))
  have h4 := hr v hv
  omega
theorem LeastSolL.holds {N : Nat} {low : List Int} {xs : List IneqD} {a : List Int} (hok : OkS (N : Int) low xs) (h : LeastSolL xs (low0 N low) a) (hr : ∀ v, v < N → 1 ≤ a.getD v 0 ∧ a.getD v 0 ≤ 3) : holdsAll a xs = (-1, 0) := by
  have hl : a.length = N := by rw [h.sol.len, low0_len hok]
  have hx : ∀ x ∈ xs, mayX x = true := fun x hx => by
    have := hok.may x hx
    unfold mayL at this
    simp only [Bool.and_eq_true] at this
    exact this.1.1
  exact holdsAll_yes hx (fun x hx => (holdsQ_iff (OverL.of_may (hok.may x hx)) hl hr).1) (fun x hx => (holdsQ_iff (OverL.of_may (hok.may x hx)) hl hr).2.2 (h.sol.hold x hx))

end Go.Proofs.Ythabkpkgocafoaa
