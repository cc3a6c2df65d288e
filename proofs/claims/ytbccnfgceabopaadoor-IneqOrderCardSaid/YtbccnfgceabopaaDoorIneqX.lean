/- ineq.Fits for every input; the plain law of orders of bounds. -/
import Derived.Test.YtbccnfgceabopaaDoorIneqW
namespace Go.Proofs.YtbccnfgceabopaaDoor
set_option linter.unusedVariables false
set_option linter.unusedSimpArgs false
open Go.RowKit

theorem fitsQ_any (tv : Value) (t : TermD) (g mv mc : Int) (w : World) (B : Nat) (hv : TermV w B tv t) (hB : B ≤ w.heap.size) (hbig : t.vars.length ≤ 1000000000) :
    Calls Tryd.prog 21 #[tv, .int .u8 g, .agg #[.int .i64 mv, .int .u8 mc]] w (RetQE (if fitsB t g mv mc then fitsQ t g mv mc else []) (if fitsB t g mv mc then 0 else 2) w) := by
  cases h : fitsB t g mv mc
  · exact fits_no tv t g mv mc w B hv hB h
  · exact fits_yes tv t g mv mc w B hv hB h hbig

theorem firstGo_neg (asg : List Int) : ∀ (xs : List IneqD) (i : Int), 0 ≤ i → (firstGo asg xs i < 0 ↔ ∀ x ∈ xs, holdsX asg x = true)
  | [], i, _ => by simp [firstGo]
  | x :: r, i, hi => by
    unfold firstGo
    cases h : holdsX asg x
    · simp [h]; omega
    · have := firstGo_neg asg r (i + 1) (by omega)
      simp [h, this]
theorem firstGo_ge (asg : List Int) : ∀ (xs : List IneqD) (i : Int), 0 ≤ i → -1 ≤ firstGo asg xs i
  | [], i, _ => by simp [firstGo]
  | x :: r, i, hi => by
    unfold firstGo
    split
    · exact firstGo_ge asg r (i + 1) (by omega)
    · omega
theorem all_may {xs : List IneqD} (h : ∀ x ∈ xs, mayX x = true) : xs.all mayX = true := by simpa using h

/-- what is laid below a greater bound is laid below a lesser one -/
theorem putQ_mono {c c' r v m : Int} (h : c ≤ c') (h3 : c' ≤ 3) : ∀ y ∈ putQ c' r v m, ∃ x ∈ putQ c r v m, x.lv = y.lv ∧ x.lc = y.lc ∧ x.r = y.r ∧ x.c ≤ y.c := by
  intro y hy
  unfold putQ at hy ⊢
  split at hy
  · rename_i hp
    rw [List.mem_singleton] at hy
    subst hy
    have : putsQ c r v m = true := by
      unfold putsQ at hp ⊢
      split
      · rename_i h0
        rw [if_pos h0] at hp
        simp at hp ⊢
        exact ⟨by omega, hp.2⟩
      · rename_i h0
        rw [if_neg h0] at hp
        simp at hp ⊢
        omega
    rw [if_pos this]
    exact ⟨_, List.mem_singleton.2 rfl, rfl, rfl, rfl, h⟩
  · simp at hy
theorem putQ_len_mono {c c' r v m : Int} (h : c ≤ c') (h3 : c' ≤ 3) : (putQ c' r v m).length ≤ (putQ c r v m).length := by
  by_cases h0 : putQ c' r v m = []
  · rw [h0]; simp
  · obtain ⟨y, hy⟩ := List.exists_mem_of_ne_nil _ h0
    obtain ⟨x, hx, _⟩ := putQ_mono h h3 y hy
    have h1 := putQ_len c' r v m
    have : 0 < (putQ c r v m).length := List.length_pos_of_mem hx
    omega
theorem putsV_len_mono {c c' r : Int} (h : c ≤ c') (h3 : c' ≤ 3) : ∀ (l : List Int), (putsV c' r l).length ≤ (putsV c r l).length
  | [] => by simp [putsV]
  | v :: l => by
    have h1 := putQ_len_mono (r := r) (v := v) (m := 0) h h3
    have h2 := putsV_len_mono (r := r) h h3 l
    unfold putsV at h2 ⊢
    rw [List.flatMap_cons, List.flatMap_cons, List.length_append, List.length_append]
    omega
theorem fitsQ_mono {t : TermD} {g h mv mc : Int} (h3 : max (max g h) mc ≤ 3) : ∀ y ∈ fitsQ t (max g h) mv mc, ∃ x ∈ fitsQ t g mv mc, x.lv = y.lv ∧ x.lc = y.lc ∧ x.r = y.r ∧ x.c ≤ y.c := by
  intro y hy
  have hc : max g mc ≤ max (max g h) mc := by omega
  unfold fitsQ fitsL putsV at hy ⊢
  rcases List.mem_append.1 hy with hy | hy
  · obtain ⟨x, hx, hh⟩ := putQ_mono hc h3 y hy
    exact ⟨x, List.mem_append.2 (.inl hx), hh⟩
  · obtain ⟨v, hv, hy⟩ := List.mem_flatMap.1 hy
    obtain ⟨x, hx, hh⟩ := putQ_mono hc h3 y hy
    exact ⟨x, List.mem_append.2 (.inr (List.mem_flatMap.2 ⟨v, hv, hx⟩)), hh⟩
theorem fitsQ_len_mono {t : TermD} {g h mv mc : Int} (h3 : max (max g h) mc ≤ 3) : (fitsQ t (max g h) mv mc).length ≤ (fitsQ t g mv mc).length := by
  have hc : max g mc ≤ max (max g h) mc := by omega
  unfold fitsQ fitsL
  rw [List.length_append, List.length_append]
  have h1 := putQ_len_mono (r := if mc = 0 then mv else -1) (v := 0) (m := (leastT t).c) hc h3
  have h2 := putsV_len_mono (r := if mc = 0 then mv else -1) hc h3 (leastT t).vars
  omega
theorem fitsB_le {t : TermD} {g mv mc : Int} (h : fitsB t g mv mc = true) : 1 ≤ g ∧ g ≤ 3 ∧ 0 ≤ mc ∧ mc ≤ 3 := by
  unfold fitsB isB oneB at h
  simp only [Bool.or_eq_true, Bool.and_eq_true, decide_eq_true_eq, beq_iff_eq] at h
  omega
theorem holds_mono {asg : List Int} {x y : IneqD} (h1 : x.lv = y.lv) (h2 : x.lc = y.lc) (h3 : x.r = y.r) (h4 : x.c ≤ y.c) (h : holdsX asg x = true) : holdsX asg y = true := by
  unfold holdsX holdsQ at h ⊢
  rw [h1, h2, h3] at h
  simp only [decide_eq_true_eq] at h ⊢
  unfold rightQ at h ⊢
  split
  · rename_i h0; rw [if_pos h0] at h; omega
  · rename_i h0; rw [if_neg h0] at h; omega
theorem order_law {t : TermD} {g h mv mc : Int} {asg : List Int} (ha : fitsB t g mv mc = true) (hb : fitsB t (max g h) mv mc = true) (he : (holdsAll asg (fitsQ t g mv mc)).2 = 0) :
    (holdsAll asg (fitsQ t (max g h) mv mc)).2 = 0 ∧ (0 ≤ (holdsAll asg (fitsQ t g mv mc)).1 ∨ (holdsAll asg (fitsQ t (max g h) mv mc)).1 < 0) ∧ (fitsQ t (max g h) mv mc).length ≤ (fitsQ t g mv mc).length := by
  have h3 : max (max g h) mc ≤ 3 := by have := fitsB_le hb; omega
  have m1 := all_may (fits_may ha)
  have m2 := all_may (fits_may hb)
  have mono := @fitsQ_mono t g h mv mc h3
  refine ⟨?_, ?_, fitsQ_len_mono h3⟩
  all_goals
    unfold holdsAll at he ⊢
    rw [m1] at he
    simp only [m1, m2, if_true] at he ⊢
    have hnb : (fitsQ t g mv mc).any (badX asg) = false := by
      cases hh : (fitsQ t g mv mc).any (badX asg)
      · rfl
      · rw [hh] at he; simp at he
    have hnb' : (fitsQ t (max g h) mv mc).any (badX asg) = false := by
      rw [List.any_eq_false]
      intro y hy hbad
      obtain ⟨x, hx, e1, e2, e3, _⟩ := mono y hy
      have := List.any_eq_false.1 hnb x hx
      unfold badX at this hbad
      rw [e1, e2, e3] at this
      exact this hbad
    simp only [hnb, hnb', Bool.false_eq_true, if_false]
  by_cases hn : 0 ≤ firstGo asg (fitsQ t g mv mc) 0
  · exact .inl hn
  · refine .inr ((firstGo_neg asg _ 0 (by omega)).2 fun y hy => ?_)
    obtain ⟨x, hx, e1, e2, e3, e4⟩ := mono y hy
    exact holds_mono e1 e2 e3 e4 ((firstGo_neg asg _ 0 (by omega)).1 (by omega) x hx)

end Go.Proofs.YtbccnfgceabopaaDoor
