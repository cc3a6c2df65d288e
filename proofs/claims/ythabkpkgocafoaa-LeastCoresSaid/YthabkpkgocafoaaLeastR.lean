/- Plain law of the solver: solutions, least ones, cores. -/
import Derived.Test.YthabkpkgocafoaaLeastQ
namespace Go.Proofs.Ythabkpkgocafoaa
set_option linter.unusedVariables false
set_option linter.unusedSimpArgs false

/-- a solution, above low -/
structure SolvL (xs : List IneqD) (low asg : List Int) : Prop where
  len : asg.length = low.length
  low : ∀ v, v < low.length → low.getD v 0 ≤ asg.getD v 0
  hold : ∀ x ∈ xs, holdL asg x
/-- the least solution -/
structure LeastSolL (xs : List IneqD) (low is : List Int) : Prop where
  sol : SolvL xs low is
  least : ∀ asg, SolvL xs low asg → ∀ v, v < low.length → is.getD v 0 ≤ asg.getD v 0
theorem SolvL.sol {xs : List IneqD} {low asg : List Int} (h : SolvL xs low asg) : SolL xs low asg := ⟨h.len, h.low, fun x hx => (h.hold x hx).keeps⟩
theorem SolvL.sub {xs ys : List IneqD} {low asg : List Int} (h : SolvL xs low asg) (hs : ∀ x ∈ ys, x ∈ xs) : SolvL ys low asg := ⟨h.len, h.low, fun x hx => h.hold x (hs x hx)⟩

theorem LeastSolL.unique {xs : List IneqD} {low a b : List Int} (ha : LeastSolL xs low a) (hb : LeastSolL xs low b) : a = b := by
  apply List.ext_getElem (by rw [ha.sol.len, hb.sol.len])
  intro i h1 h2
  have hi : i < low.length := by have := ha.sol.len; omega
  have e1 := ha.least b hb.sol i hi
  have e2 := hb.least a ha.sol i hi
  simp only [List.getD, List.getElem?_eq_getElem h1, List.getElem?_eq_getElem h2, Option.getD_some] at e1 e2
  omega

theorem EndL.ok {xs : List IneqD} {low is why : List Int} (h : EndL xs low is why) (hn : ∀ x ∈ xs, x.r < 0 → leftL is x ≤ x.c) : LeastSolL xs low is := by
  refine ⟨⟨h.inv.il, h.inv.le, fun x hx => ?_⟩, fun asg ha => h.inv.least asg ha.sol⟩
  by_cases hr : 0 ≤ x.r
  · exact (h.closed x hx).hold hr
  · unfold holdL; rw [if_neg hr]; exact hn x hx (by omega)

/-- what grows: the left side under a greater assignment -/
theorem leftL_mono {n : Nat} {x : IneqD} {a b : List Int} (hx : OverL n x) (hab : ∀ v, v < n → a.getD v 0 ≤ b.getD v 0) : leftL a x ≤ leftL b x := by
  unfold leftL
  split
  · rename_i h0; have := hx.lv h0; exact hab _ (by omega)
  · exact Int.le_refl _

theorem InvL.clash {xs : List IneqD} {low is why : List Int} (h : InvL xs low is why) {x : IneqD} (hm : x ∈ xs) (hx : OverL low.length x) (hr : x.r < 0) (hc : x.c < leftL is x) (asg : List Int) : ¬ SolvL xs low asg := by
  intro ha
  have h1 := ha.hold x hm
  unfold holdL at h1
  rw [if_neg (by omega)] at h1
  have := leftL_mono hx (h.least asg ha.sol)
  omega

/-- the core: together unsolvable, without any one solvable -/
theorem EndL.core {xs : List IneqD} {low is why : List Int} (h : EndL xs low is why) (hlow3 : ∀ v, v < low.length → low.getD v 0 ≤ 3) {i : Nat} {x : IneqD} (hi : xs[i]? = some x) (hr : x.r < 0) (hc : x.c < leftL is x) {l : List Nat} (hl : ChainL xs low why x x.c l) :
    (i :: l).Nodup ∧ (∀ j ∈ i :: l, j < xs.length) ∧
    (∀ asg : List Int, asg.length = low.length → (∀ v, v < low.length → low.getD v 0 ≤ asg.getD v 0) → ¬ ∀ j ∈ i :: l, ∀ y, xs[j]? = some y → holdL asg y) ∧
    ∀ k ∈ i :: l, ∃ asg : List Int, asg.length = low.length ∧ (∀ v, v < low.length → low.getD v 0 ≤ asg.getD v 0) ∧ ∀ j ∈ i :: l, j ≠ k → ∀ y, xs[j]? = some y → holdL asg y := by
  obtain ⟨rank, T, hT, hW⟩ := h.inv.rk
  have hx := h.over x (List.mem_of_getElem? hi)
  have hnd := hl.nodup h hW hx hc
  have hmem := hl.mem h hW hx hc
  have hil : i ∉ l := fun hm => by
    obtain ⟨_, y, e, _, h0, _⟩ := hmem i hm
    rw [hi] at e; cases e; omega
  refine ⟨List.nodup_cons.2 ⟨hil, hnd⟩, fun j hj => ?_, fun asg ha hlow hall => ?_, fun k hk => ?_⟩
  · rcases List.mem_cons.1 hj with rfl | hj
    · exact (List.getElem?_eq_some_iff.1 hi).1
    · obtain ⟨_, y, e, _⟩ := hmem j hj
      exact (List.getElem?_eq_some_iff.1 e).1
  · have h1 := hl.no h hW asg hlow hx hc (fun j hj y hy => (hall j (List.mem_cons_of_mem _ hj) y hy).keeps)
    have h2 := hall i List.mem_cons_self x hi
    unfold holdL at h2
    rw [if_neg (by omega)] at h2
    omega
  · rcases List.mem_cons.1 hk with rfl | hk
    · have hg3 : ∀ v, v < low.length → (List.replicate low.length (3 : Int)).getD v 0 = 3 := fun v hv => by simp [List.getD, hv]
      refine ⟨List.replicate low.length 3, by simp, fun v hv => by rw [hg3 v hv]; exact hlow3 v hv, fun j hj hne y hy => ?_⟩
      rcases List.mem_cons.1 hj with rfl | hj
      · exact absurd rfl hne
      · obtain ⟨_, z, e, z1, z2, _⟩ := hmem j hj
        rw [hy] at e
        cases e
        unfold holdL
        rw [if_pos z2, hg3 _ (by have := z1.r; omega)]
        have := leftL_top z1 (is := List.replicate low.length 3) (fun v hv => by rw [hg3 v hv]; exact Int.le_refl _)
        omega
    · obtain ⟨l1, l2, e⟩ := List.append_of_mem hk
      obtain ⟨asg, s1, s2, s3, s4, _⟩ := hl.some h hW hlow3 hx hc l1 k l2 e
      refine ⟨asg, s1, fun v hv => (s2 v hv).1, fun j hj hne y hy => ?_⟩
      rcases List.mem_cons.1 hj with rfl | hj
      · rw [hi] at hy
        cases hy
        unfold holdL
        rw [if_neg (by omega)]
        exact s3
      · have hj' : j ∈ l1 ++ l2 := by
          rw [e] at hj
          rcases List.mem_append.1 hj with q | q
          · exact List.mem_append.2 (Or.inl q)
          · rcases List.mem_cons.1 q with q | q
            · exact absurd q hne
            · exact List.mem_append.2 (Or.inr q)
        obtain ⟨_, z, e', z1, z2, _⟩ := hmem j hj
        rw [hy] at e'
        cases e'
        exact (s4 j hj' y hy).hold z2

end Go.Proofs.Ythabkpkgocafoaa
