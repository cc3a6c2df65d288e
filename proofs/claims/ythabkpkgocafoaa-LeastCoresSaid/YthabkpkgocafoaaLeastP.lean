/- Plain law of the solver: what holds after every raise. -/
import Derived.Test.YthabkpkgocafoaaLeastC
namespace Go.Proofs.Ythabkpkgocafoaa
set_option linter.unusedVariables false
set_option linter.unusedSimpArgs false

theorem getD_set (l : List Int) (i j : Nat) (a d : Int) (hi : i < l.length) : (l.set i a).getD j d = if i = j then a else l.getD j d := by
  simp only [List.getD, List.getElem?_set]
  by_cases e : i = j
  · subst e; simp [hi]
  · simp [e]

/-- an inequality under a variable is kept (others are always) -/
def keepsL (is : List Int) (x : IneqD) : Prop := 0 ≤ x.r → leftL is x ≤ max x.c (is.getD x.r.toNat 0)
/-- an inequality over n variables -/
structure OverL (n : Nat) (x : IneqD) : Prop where
  lv : x.lc = 0 → 0 ≤ x.lv ∧ x.lv < n
  r : x.r < n
  lc : x.lc ≤ 3
structure SolL (xs : List IneqD) (low asg : List Int) : Prop where
  len : asg.length = low.length
  low : ∀ v, v < low.length → low.getD v 0 ≤ asg.getD v 0
  keeps : ∀ x ∈ xs, keepsL asg x
theorem raiseB_iff (is : List Int) (x : IneqD) : raiseB is x = true ↔ 0 ≤ x.r ∧ max x.c (is.getD x.r.toNat 0) < leftL is x := by
  unfold raiseB; simp
theorem raiseB_not (is : List Int) (x : IneqD) (h : raiseB is x = false) : keepsL is x := by
  intro hr
  unfold raiseB at h
  simp only [Bool.and_eq_false_iff, decide_eq_false_iff_not] at h
  omega

/-- why a variable is as it is -/
def WhyL (xs : List IneqD) (low is why : List Int) (rank : Nat → Nat) (v : Nat) : Prop :=
  (why.getD v (-1) = -1 ∧ is.getD v 0 = low.getD v 0) ∨
  ∃ (k : Nat) (x : IneqD), why.getD v (-1) = (k : Int) ∧ xs[k]? = some x ∧ x.r = (v : Int) ∧ x.c < is.getD v 0 ∧ is.getD v 0 ≤ leftL is x ∧ (x.lc = 0 → leftL is x = is.getD v 0 → rank x.lv.toNat < rank v)
structure InvL (xs : List IneqD) (low is why : List Int) : Prop where
  il : is.length = low.length
  wl : why.length = low.length
  le : ∀ v, v < low.length → low.getD v 0 ≤ is.getD v 0
  top : ∀ v, v < low.length → is.getD v 0 ≤ 3
  rk : ∃ (rank : Nat → Nat) (T : Nat), (∀ v, rank v ≤ T) ∧ ∀ v, v < low.length → WhyL xs low is why rank v
  least : ∀ asg, SolL xs low asg → ∀ v, v < low.length → is.getD v 0 ≤ asg.getD v 0

theorem InvL.start (xs : List IneqD) (low : List Int) (h3 : ∀ v, v < low.length → low.getD v 0 ≤ 3) : InvL xs low low (List.replicate low.length (-1)) :=
  ⟨rfl, by simp, fun _ _ => Int.le_refl _, h3, ⟨fun _ => 0, 0, fun _ => Nat.le_refl _, fun v hv => Or.inl ⟨by simp [List.getD, hv], rfl⟩⟩, fun asg h => h.low⟩

theorem leftL_top {n : Nat} {x : IneqD} {is : List Int} (hx : OverL n x) (ht : ∀ v, v < n → is.getD v 0 ≤ 3) : leftL is x ≤ 3 := by
  unfold leftL
  split
  · rename_i h; have := hx.lv h; exact ht _ (by omega)
  · exact hx.lc

theorem leftL_set {is : List Int} {r : Nat} {L : Int} (y : IneqD) (hr : r < is.length) : leftL (is.set r L) y = if y.lc = 0 ∧ r = y.lv.toNat then L else leftL is y := by
  unfold leftL
  rw [getD_set _ _ _ _ _ hr]
  by_cases h0 : y.lc = 0
  · by_cases h1 : r = y.lv.toNat
    · simp [h0, h1]
    · simp [h0, h1]
  · simp [h0]

theorem InvL.raise {xs : List IneqD} {low is why : List Int} (h : InvL xs low is why) {i : Nat} {x : IneqD} (hi : xs[i]? = some x) (hx : OverL low.length x) (hy : raiseB is x = true) :
    InvL xs low (is.set x.r.toNat (leftL is x)) (why.set x.r.toNat i) := by
  obtain ⟨hr0, hlt⟩ := (raiseB_iff _ _).1 hy
  obtain ⟨lv, lc, c, r⟩ := x
  dsimp only at *
  obtain ⟨k, rfl⟩ : ∃ k : Nat, r = (k : Int) := ⟨r.toNat, (Int.toNat_of_nonneg hr0).symm⟩
  rw [Int.toNat_natCast] at *
  have hk : k < low.length := by have := hx.r; dsimp only at this; omega
  have hki : k < is.length := by rw [h.il]; exact hk
  have hkw : k < why.length := by rw [h.wl]; exact hk
  generalize hL : leftL is ⟨lv, lc, c, (k : Int)⟩ = L at *
  refine ⟨by simp [h.il], by simp [h.wl], fun v hv => ?_, fun v hv => ?_, ?_, fun asg ha v hv => ?_⟩
  · rw [getD_set _ _ _ _ _ hki]
    have := h.le v hv
    split
    · rename_i e; subst e; omega
    · exact this
  · rw [getD_set _ _ _ _ _ hki]
    split
    · rw [← hL]; exact leftL_top hx h.top
    · exact h.top v hv
  · obtain ⟨rank, T, hT, hW⟩ := h.rk
    refine ⟨fun v => if v = k then T + 1 else rank v, T + 1, fun v => ?_, fun v hv => ?_⟩
    · have := hT v
      dsimp only
      split <;> omega
    · by_cases e : k = v
      · subst e
        refine Or.inr ⟨i, ⟨lv, lc, c, (k : Int)⟩, ?_, hi, rfl, ?_, ?_, ?_⟩
        · rw [getD_set _ _ _ _ _ hkw, if_pos rfl]
        · rw [getD_set _ _ _ _ _ hki, if_pos rfl]; dsimp only; omega
        · rw [getD_set _ _ _ _ _ hki, if_pos rfl, leftL_set _ hki, hL]; split <;> omega
        · intro h0 _
          dsimp only at h0 ⊢
          have hne : lv.toNat ≠ k := by
            intro e
            have : L = is.getD k 0 := by rw [← hL]; unfold leftL; dsimp only; rw [if_pos h0, e]
            omega
          rw [if_neg hne, if_pos rfl]
          have := hT lv.toNat
          omega
      · have hv' : ¬ v = k := fun e' => e e'.symm
        rcases hW v hv with ⟨a, b⟩ | ⟨j, y, a, b, c', d, f, g⟩
        · exact Or.inl ⟨by rw [getD_set _ _ _ _ _ hkw, if_neg e, a], by rw [getD_set _ _ _ _ _ hki, if_neg e, b]⟩
        · refine Or.inr ⟨j, y, by rw [getD_set _ _ _ _ _ hkw, if_neg e, a], b, c', by rw [getD_set _ _ _ _ _ hki, if_neg e]; exact d, ?_, ?_⟩
          · rw [getD_set _ _ _ _ _ hki, if_neg e, leftL_set _ hki]
            split
            · rename_i hh
              have : leftL is y = is.getD k 0 := by unfold leftL; rw [if_pos hh.1, ← hh.2]
              omega
            · exact f
          · intro h0 hq
            rw [getD_set _ _ _ _ _ hki, if_neg e, leftL_set _ hki] at hq
            by_cases hh : k = y.lv.toNat
            · rw [if_pos ⟨h0, hh⟩] at hq
              have : leftL is y = is.getD k 0 := by unfold leftL; rw [if_pos h0, ← hh]
              omega
            · rw [if_neg (fun z => hh z.2)] at hq
              have := g h0 hq
              dsimp only
              rw [if_neg (fun z => hh z.symm), if_neg hv']
              exact this
  · rw [getD_set _ _ _ _ _ hki]
    split
    · rename_i e
      subst e
      have hm := ha.keeps _ (List.mem_of_getElem? hi) (by dsimp only; omega)
      dsimp only at hm
      rw [Int.toNat_natCast] at hm
      have hle : L ≤ leftL asg ⟨lv, lc, c, (k : Int)⟩ := by
        rw [← hL]
        unfold leftL
        dsimp only
        split
        · rename_i h0
          have := hx.lv h0
          dsimp only at this
          exact h.least asg ha _ (by omega)
        · exact Int.le_refl _
      omega
    · exact h.least asg ha v hv

end Go.Proofs.Ythabkpkgocafoaa
