/- Plain laws of uses and multiplicities: everything hangs on four classes of uses and three of multiplicities. -/
import Derived.Test.YtmpodijbgkcdhaaRefB
namespace Go.Proofs.Ytmpodijbgkcdhaa
set_option linter.unusedVariables false
set_option linter.unusedSimpArgs false

def cl (u : Int) : Int := if u = 0 then 0 else if u = 1 then 1 else if u = 2 then 2 else 3
theorem cl_min {u : Int} (h : 0 ≤ u) : min u 3 = cl u := by
  unfold cl
  repeat' split
  all_goals omega
theorem cl_zero (u : Int) : cl u = 0 ↔ u = 0 := by
  unfold cl
  by_cases h0 : u = 0
  · simp [h0]
  · by_cases h1 : u = 1
    · simp [h1]
    · by_cases h2 : u = 2 <;> simp [h0, h1, h2]
theorem cl_mem (u : Int) : cl u ∈ ([0, 1, 2, 3] : List Int) := by
  unfold cl
  repeat' split
  all_goals simp
theorem near_mem (m : Int) : nearI m ∈ ([1, 2, 3] : List Int) := by
  have := nearI_lo m
  have := nearI_hi m
  simp
  omega
theorem cl_cl (u : Int) : cl (cl u) = cl u := by
  have h := cl_mem u
  generalize cl u = x at h
  revert h
  revert x
  decide
theorem lets_cl (u n : Int) : letsI u n = letsI (cl u) n := by
  unfold letsI cl
  by_cases h0 : u = 0
  · simp [h0]
  · by_cases h1 : u = 1
    · simp [h1]
    · by_cases h2 : u = 2 <;> simp [h0, h1, h2]

def sumC (x y : Int) : Int := if y = 0 then x else if x = 0 then y else 3
def joinC (x y : Int) : Int := if (x == 0 || y == 0) && max x y != 0 then max (max x y) 2 else max x y
theorem sum2_eq {a b : Int} (ha : 0 ≤ a) (hb : 0 ≤ b) : sumI [a, b] = sumC (cl a) (cl b) := by
  have e1 : sumI [a, b] = if b = 0 then (if a = 0 then 0 else min a 3) else if (if a = 0 then 0 else min a 3) = 0 then min b 3 else 3 := by
    simp only [sumI, List.foldl]
    simp
  rw [e1, cl_min ha, cl_min hb]
  have ea : (if a = 0 then 0 else cl a) = cl a := by
    by_cases h : a = 0
    · simp [h, cl]
    · simp [h]
  rw [ea]
  unfold sumC
  by_cases h : b = 0
  · simp [h, cl]
  · have : ¬ cl b = 0 := fun e => h ((cl_zero b).1 e)
    simp [h, this]
theorem joinM2 {a b : Int} (ha : 0 ≤ a) (hb : 0 ≤ b) : joinM [a, b] = max (cl a) (cl b) := by
  simp only [joinM, List.foldl]
  rw [cl_min ha, cl_min hb]
  have := cl_mem a
  simp at this
  omega
theorem beq_cl (a : Int) : (a == 0) = (cl a == 0) := by
  by_cases h : a = 0
  · simp [h, cl]
  · have : ¬ cl a = 0 := fun e => h ((cl_zero a).1 e)
    rw [beq_eq_false_iff_ne.2 h, beq_eq_false_iff_ne.2 this]
theorem join2_eq {a b : Int} (ha : 0 ≤ a) (hb : 0 ≤ b) : joinI [a, b] = joinC (cl a) (cl b) := by
  unfold joinI joinC
  rw [joinM2 ha hb]
  have : joinN [a, b] = (cl a == 0 || cl b == 0) := by
    simp only [joinN, List.foldl, Bool.false_or]
    rw [beq_cl a, beq_cl b]
  rw [this]
theorem scale_eq {m u : Int} (hu : 0 ≤ u) : scaleI m u = scaleI (nearI m) (cl u) := by
  unfold scaleI
  rw [cl_min hu]
  have hc : min (cl u) 3 = cl u := by
    have := cl_mem u
    simp at this
    omega
  have hn : nearI (nearI m) = nearI m := by
    have := near_mem m
    generalize nearI m = x at this
    revert this
    revert x
    decide
  rw [hc, hn]
  by_cases h : u = 0
  · simp [h, cl]
  · have : ¬ cl u = 0 := fun e => h ((cl_zero u).1 e)
    simp [h, this]
theorem least_cl {u : Int} (hu : 0 ≤ u) : leastI u = leastI (cl u) := by
  unfold leastI
  by_cases h : u = 0
  · simp [h, cl]
  · have h' : ¬ cl u = 0 := fun e => h ((cl_zero u).1 e)
    simp only [h, h', if_false]
    unfold nearI cl
    by_cases h1 : u = 1
    · simp [h1]
    · by_cases h2 : u = 2
      · simp [h2]
      · have h3 : ¬ u ≤ 1 := by omega
        simp only [h, h1, h2, if_false]
        by_cases h4 : u = 3
        · subst h4; decide
        · have : ¬ u ≤ 3 := by omega
          simp [h3, this]
theorem near_near (m : Int) : nearI (nearI m) = nearI m := by
  have := near_mem m
  generalize nearI m = x at this
  revert this
  revert x
  decide
theorem fits_eq {u m : Int} (hu : 0 ≤ u) : fitsI u m = fitsI (cl u) (nearI m) := by
  unfold fitsI
  rw [least_cl hu, near_near]

/-! results are classes -/
theorem cl_of_mem {x : Int} (h : x ∈ ([0, 1, 2, 3] : List Int)) : cl x = x := by
  revert h
  revert x
  decide
theorem sumC_mem : ∀ x ∈ ([0, 1, 2, 3] : List Int), ∀ y ∈ ([0, 1, 2, 3] : List Int), sumC x y ∈ ([0, 1, 2, 3] : List Int) := by decide
theorem joinC_mem : ∀ x ∈ ([0, 1, 2, 3] : List Int), ∀ y ∈ ([0, 1, 2, 3] : List Int), joinC x y ∈ ([0, 1, 2, 3] : List Int) := by decide
theorem scaleC_mem : ∀ x ∈ ([1, 2, 3] : List Int), ∀ y ∈ ([0, 1, 2, 3] : List Int), scaleI x y ∈ ([0, 1, 2, 3] : List Int) := by decide
theorem mem_nonneg {x : Int} (h : x ∈ ([0, 1, 2, 3] : List Int)) : 0 ≤ x := by
  simp at h
  omega

/-! the references' answers -/
theorem ext_leastB {f g : Nat → Bool} (h : ∀ k, k < 4 → f k = g k) : leastB f = leastB g := by
  have e : ∀ u, okTo f u 4 = okTo g u 4 := by
    intro u
    simp [okTo, h 0, h 1, h 2, h 3]
  simp only [leastB, e]
theorem refJoin_cl (a b : Int) : leastB (joinF a b) = leastB (joinF (cl a) (cl b)) :=
  ext_leastB fun k _ => by unfold joinF; rw [lets_cl a, lets_cl b]
theorem refSum_cl (a b : Int) : leastB (sumP a b 4 0) = leastB (sumP (cl a) (cl b) 4 0) :=
  ext_leastB fun j _ => by
    have h : ∀ n k j, hitB a b n k j = hitB (cl a) (cl b) n k j := by intro n k j; unfold hitB; rw [lets_cl a, lets_cl b]
    have h' : hitB a b = hitB (cl a) (cl b) := by funext n k j; exact h n k j
    unfold sumP
    rw [h']
theorem refJoin_eq {a b : Int} (ha : 0 ≤ a) (hb : 0 ≤ b) : joinI [a, b] = leastB (joinF a b) := by
  rw [join2_eq ha hb, refJoin_cl]
  have h := cl_mem a
  have k := cl_mem b
  generalize cl a = x at h ⊢
  generalize cl b = y at k ⊢
  revert x y
  decide +kernel
theorem refSum_eq {a b : Int} (ha : 0 ≤ a) (hb : 0 ≤ b) : sumI [a, b] = leastB (sumP a b 4 0) := by
  rw [sum2_eq ha hb, refSum_cl]
  have h := cl_mem a
  have k := cl_mem b
  generalize cl a = x at h ⊢
  generalize cl b = y at k ⊢
  revert x y
  decide +kernel
theorem sumN_cl (u : Int) : ∀ t, sumN u t = sumN (cl u) t
  | 0 => rfl
  | t + 1 => by
    simp only [sumN]
    rw [sumN_cl u t, refSum_cl (sumN (cl u) t) u, refSum_cl (sumN (cl u) t) (cl u), cl_cl]
theorem of_near {m : Int} (h : 0 ≤ m) : ofI m = nearI m := by
  unfold ofI nearI
  by_cases h0 : m = 0
  · simp [h0]
  · by_cases h1 : m = 1
    · simp [h1]
    · by_cases h2 : m = 2
      · simp [h2]
      · have h3 : ¬ m ≤ 1 := by omega
        simp [h0, h1, h2, h3]
        omega
theorem refScale_eq {m u : Int} (hm : 0 ≤ m) (hu : 0 ≤ u) : scaleI m u = leastB (scP m u 4) := by
  have e : leastB (scP m u 4) = leastB (scP (nearI m) (cl u) 4) := ext_leastB fun j _ => by
    have h' : scHit m u = scHit (nearI m) (cl u) := by
      funext t j
      unfold scHit
      rw [sumN_cl u, of_near hm, of_near (by have := nearI_lo m; omega), near_near]
    unfold scP
    rw [h']
  rw [scale_eq hu, e]
  have h := near_mem m
  have k := cl_mem u
  generalize nearI m = x at h ⊢
  generalize cl u = y at k ⊢
  revert x y
  decide +kernel
theorem refFits_eq {u m : Int} (hm : 0 ≤ m) (hu : 0 ≤ u) : fitsI u m = fitTo u m 4 := by
  have e : ∀ k, fitTo u m k = fitTo (cl u) (nearI m) k := by
    intro k
    induction k with
    | zero => rfl
    | succ k ih =>
      simp only [fitTo]
      rw [ih, lets_cl u, of_near hm, of_near (by have := nearI_lo m; omega), near_near]
  rw [fits_eq hu, e]
  have h := near_mem m
  have k := cl_mem u
  generalize nearI m = x at h ⊢
  generalize cl u = y at k ⊢
  revert x y
  decide +kernel
theorem refText_eq {m : Int} (hm : 0 ≤ m) : mtext m = rtext m := by
  unfold mtext rtext
  rw [of_near hm]

end Go.Proofs.Ytmpodijbgkcdhaa
