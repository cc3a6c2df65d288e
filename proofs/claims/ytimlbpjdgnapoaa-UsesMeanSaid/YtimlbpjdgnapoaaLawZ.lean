/- Plain laws: uses under an assignment. -/
import Derived.Test.YtimlbpjdgnapoaaLawY
import Derived.Test.YtimlbpjdgnapoaaM5
namespace Go.Proofs.Ytimlbpjdgnapoaa
set_option linter.unusedVariables false
set_option linter.unusedSimpArgs false
open Go.RowKit

theorem atU_zero {xs : List UseD} {v : Int} {asg : List Int} (h : (atU xs v asg).2 = 0) : Good xs ∧ Fine asg (ofU xs v) ∧ valT asg (ofU xs v) = (atU xs v asg).1 := by
  unfold atU at h ⊢
  cases hm : mayU xs with
  | false => rw [hm] at h; simp at h
  | true =>
    rw [hm] at h
    simp only [if_true] at h ⊢
    have hf := fine_of_at h
    exact ⟨good_of hm, hf, by rw [fine_at hf]⟩
theorem atU_fine {xs : List UseD} {v : Int} {asg : List Int} (h : Good xs) (hf : Fine asg (ofU xs v)) : atU xs v asg = (valT asg (ofU xs v), 0) := by
  unfold atU
  rw [if_pos h.mayU, fine_at hf]
theorem two_good {xs ys : List UseD} (h1 : Good xs) (h2 : Good ys) : ∀ l ∈ [xs, ys], Good l := by simp [h1, h2]
theorem mean_join {xs ys : List UseD} {v : Int} {asg : List Int} (h1 : Good xs) (h2 : Good ys) (f1 : Fine asg (ofU xs v)) (f2 : Fine asg (ofU ys v)) :
    atU (eachU joinT [xs, ys]) v asg = (joinI [valT asg (ofU xs v), valT asg (ofU ys v)], 0) := by
  have hm := means_join f1 f2
  have he := each_of eachJoin (two_good h1 h2) v
  rw [atU_fine (each_good eachJoin (two_good h1 h2)) (by rw [he]; exact hm.1), he]
  exact Prod.ext hm.2 rfl
theorem mean_sum {xs ys : List UseD} {v : Int} {asg : List Int} (h1 : Good xs) (h2 : Good ys) (f1 : Fine asg (ofU xs v)) (f2 : Fine asg (ofU ys v)) :
    atU (eachU sumT [xs, ys]) v asg = (sumI [valT asg (ofU xs v), valT asg (ofU ys v)], 0) := by
  have hm := means_sum f1 f2
  have he := each_of eachSum (two_good h1 h2) v
  rw [atU_fine (each_good eachSum (two_good h1 h2)) (by rw [he]; exact hm.1), he]
  exact Prod.ext hm.2 rfl

theorem okV_in {asg : List Int} {v : Int} (h : okV asg v = true) (h0 : 0 ≤ v) : byV asg 0 v = atV asg v := by
  have := okV_le h
  unfold okV at h
  simp only [Bool.and_eq_true, decide_eq_true_eq] at h
  unfold byV
  rw [if_pos ⟨rfl, h0, h.1⟩]
theorem scaleT_fine {asg : List Int} {t : TermD} {v : Int} (hf : Fine asg t) (h0 : 0 ≤ v) (h1 : v < 1048576) (hk : okV asg v = true) : Fine asg (scaleT 0 v t) ∧ valT asg (scaleT 0 v t) = scaleI (atV asg v) (valT asg t) := by
  have hb := okV_in hk h0
  have hl := okV_le hk
  have := means_scale hf (isB_v h0 h1) (by rw [hb]; exact hl.1) (by rw [hb]; exact hl.2)
  rw [hb] at this
  exact this
theorem valT_range {asg : List Int} {t : TermD} (h : Fine asg t) : 0 ≤ valT asg t ∧ valT asg t ≤ 3 := by
  unfold valT
  cases hn : t.never
  · have := fine_val h hn
    simp only [Bool.false_eq_true, if_false]; omega
  · simp
theorem scaleI_eq : ∀ m u : Int, 1 ≤ m → m ≤ 3 → 0 ≤ u → u ≤ 3 → scaleI m u = if u = 0 then 0 else max m u := by
  intro m u h1 h2 h3 h4
  have hm : m = 1 ∨ m = 2 ∨ m = 3 := by omega
  have hu : u = 0 ∨ u = 1 ∨ u = 2 ∨ u = 3 := by omega
  rcases hm with rfl | rfl | rfl <;> rcases hu with rfl | rfl | rfl | rfl <;> decide +kernel
theorem leastI_self {k : Int} (h1 : 1 ≤ k) (h2 : k ≤ 3) : leastI k = k := by
  have hm : k = 1 ∨ k = 2 ∨ k = 3 := by omega
  rcases hm with rfl | rfl | rfl <;> decide +kernel

theorem fold_of : ∀ (vs : List Int) (o : List UseD) (u : Int), Good o → (∀ v ∈ vs, 0 ≤ v ∧ v < 1048576) → ofU (vs.foldl (fun o v => scaleU 0 v o) o) u = vs.foldl (fun t v => scaleT 0 v t) (ofU o u)
  | [], _, _, _, _ => rfl
  | v :: vs, o, u, h, hv => by
    have h1 := hv v (by simp)
    rw [List.foldl_cons, List.foldl_cons, fold_of vs _ u (scaleU_good h (isB_v h1.1 h1.2)) fun x hx => hv x (by simp [hx]), scaleU_of h (isB_v h1.1 h1.2)]
theorem fold_fine (asg : List Int) : ∀ (vs : List Int) (t : TermD), Fine asg t → (∀ v ∈ vs, 0 ≤ v ∧ v < 1048576 ∧ okV asg v = true) →
    Fine asg (vs.foldl (fun t v => scaleT 0 v t) t) ∧ valT asg (vs.foldl (fun t v => scaleT 0 v t) t) = if valT asg t = 0 then 0 else maxV asg (valT asg t) vs
  | [], t, h, _ => ⟨h, by
      show valT asg t = _
      split
      · rename_i h; rw [h]
      · rfl⟩
  | v :: vs, t, h, hv => by
    have h1 := hv v (by simp)
    have h2 := scaleT_fine h h1.1 h1.2.1 h1.2.2
    have h3 := fold_fine asg vs _ h2.1 fun x hx => hv x (by simp [hx])
    have hr := valT_range h
    have hl := okV_le h1.2.2
    refine ⟨h3.1, ?_⟩
    rw [List.foldl_cons, h3.2, h2.2, scaleI_eq _ _ hl.1 hl.2 hr.1 hr.2]
    by_cases h0 : valT asg t = 0
    · rw [if_pos h0, if_pos rfl, if_pos h0]
    · rw [if_neg h0, if_neg (by omega), if_neg h0]
      unfold maxV
      rw [List.foldl_cons, Int.max_comm]
theorem mean_times {xs : List UseD} {t : TermD} {v : Int} {asg : List Int} (hx : Good xs) (hf : Fine asg (ofU xs v)) (ht : mayB t = true) (hl : Fine asg (leastT t)) :
    atU (timesU t xs) v asg = (scaleI (leastI (valT asg (leastT t))) (valT asg (ofU xs v)), 0) := by
  have hle := least_may ht
  have hvr : ∀ u ∈ (leastT t).vars, 0 ≤ u ∧ u < 1048576 ∧ okV asg u = true := fun u hu => ⟨(hle.2 u hu).1, (hle.2 u hu).2, hl.2 u hu⟩
  have hc := isB_c hle.1.1 hle.1.2
  have hb : byV asg (leastT t).c 0 = (leastT t).c := by unfold byV; rw [if_neg (by omega)]
  have hs := means_scale hf hc (by rw [hb]; exact hle.1.1) (by rw [hb]; exact hle.1.2)
  rw [hb] at hs
  have ho : ofU (timesU t xs) v = (leastT t).vars.foldl (fun t v => scaleT 0 v t) (scaleT (leastT t).c 0 (ofU xs v)) := by
    unfold timesU
    rw [fold_of _ _ _ (scaleU_good hx hc) hle.2, scaleU_of hx hc]
  have hff := fold_fine asg (leastT t).vars _ hs.1 hvr
  rw [atU_fine (times_good ht hx) (by rw [ho]; exact hff.1), ho]
  refine Prod.ext ?_ rfl
  show valT asg _ = _
  have hr := valT_range hf
  have hnv : (leastT t).never = false := by
    unfold leastT
    cases hn : t.never
    · simp [hn]
    · simp
  have hK : valT asg (leastT t) = maxV asg (leastT t).c (leastT t).vars := by unfold valT; rw [hnv]; rfl
  have hKr := fine_val hl hnv
  rw [hff.2, hs.2, scaleI_eq _ _ hle.1.1 hle.1.2 hr.1 hr.2, hK, leastI_self hKr.1 hKr.2, scaleI_eq _ _ hKr.1 hKr.2 hr.1 hr.2]
  by_cases h0 : valT asg (ofU xs v) = 0
  · simp only [if_pos h0, if_true]
  · simp only [if_neg h0]
    rw [if_neg (by have := hle.1.1; omega)]
    refine eq_of_le fun k => ?_
    rw [maxV_le, Int.max_le, Int.max_le, maxV_le]
    constructor
    · rintro ⟨⟨h1, h2⟩, h3⟩; exact ⟨⟨h1, h3⟩, h2⟩
    · rintro ⟨⟨h1, h3⟩, h2⟩; exact ⟨⟨h1, h2⟩, h3⟩

/-- a variable by itself -/
theorem lone_at {V : Int} {asg : List Int} (h : (atR ⟨false, 1, [V]⟩ asg).2 = 0) : 0 ≤ V ∧ V < 1048576 ∧ okV asg V = true ∧ leastI (atR ⟨false, 1, [V]⟩ asg).1 = atV asg V := by
  have hf := fine_of_at h
  have hv := fine_vars hf V (by simp)
  have hk := okV_le hv.2.2
  refine ⟨hv.1, hv.2.1, hv.2.2, ?_⟩
  rw [fine_at hf]
  show leastI (maxV asg 1 [V]) = _
  unfold maxV
  simp only [List.foldl_cons, List.foldl_nil]
  rw [show max 1 (atV asg V) = atV asg V from by omega]
  exact leastI_self hk.1 hk.2
theorem mean_scale {xs : List UseD} {V v : Int} {asg : List Int} (hx : Good xs) (hf : Fine asg (ofU xs v)) (h : (atR ⟨false, 1, [V]⟩ asg).2 = 0) :
    isB 0 V = true ∧ atU (scaleU 0 V xs) v asg = (scaleI (leastI (atR ⟨false, 1, [V]⟩ asg).1) (valT asg (ofU xs v)), 0) := by
  obtain ⟨h0, h1, hk, hl⟩ := lone_at h
  have hi := isB_v h0 h1
  have hs := scaleT_fine hf h0 h1 hk
  have ho := scaleU_of hx hi v
  refine ⟨hi, ?_⟩
  rw [atU_fine (scaleU_good hx hi) (by rw [ho]; exact hs.1), ho, hl]
  exact Prod.ext hs.2 rfl

end Go.Proofs.Ytimlbpjdgnapoaa
