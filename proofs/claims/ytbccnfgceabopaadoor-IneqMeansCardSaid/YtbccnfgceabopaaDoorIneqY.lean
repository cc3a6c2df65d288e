/- The plain law: what Fits tells holds just if the term, as it is there, fits the bound as it is there. -/
import Derived.Test.YtbccnfgceabopaaDoorIneqX
import Derived.Test.YtbccnfgceabopaaDoorPlC
namespace Go.Proofs.YtbccnfgceabopaaDoor
set_option linter.unusedVariables false
set_option linter.unusedSimpArgs false
open Go.RowKit

theorem atK_ok {asg : List Int} {v : Int} (h : okV asg v = true) : atK asg v = atV asg v := by unfold atK; rw [if_pos h]
theorem near_self {m : Int} (h1 : 1 ≤ m) (h2 : m ≤ 3) : nearI m = m := by
  unfold nearI
  omega
theorem least_val {asg : List Int} {t : TermD} (h : Fine asg t) : leastI (valT asg t) = maxV asg (leastT t).c (leastT t).vars := by
  cases hn : t.never
  · have e1 : valT asg t = maxV asg t.c t.vars := by unfold valT; rw [hn]; rfl
    have e2 : leastT t = t := by unfold leastT; rw [hn]; rfl
    have hb := fine_val h hn
    rw [e1, e2]
    unfold leastI
    rw [if_neg (by omega), near_self hb.1 hb.2]
  · have e1 : valT asg t = 0 := by unfold valT; rw [hn]; rfl
    have e2 : leastT t = ⟨false, 2, []⟩ := by unfold leastT; rw [hn]; rfl
    rw [e1, e2]
    rfl
theorem means_law {t : TermD} {g mv mc : Int} {asg : List Int} (hf : fitsB t g mv mc = true) (ht : (atR t asg).2 = 0) (hb : 1 ≤ byV asg mc mv ∧ byV asg mc mv ≤ 3) :
    (holdsAll asg (fitsQ t g mv mc)).2 = 0 ∧ decide ((holdsAll asg (fitsQ t g mv mc)).1 < 0) = fitsI (atR t asg).1 (max g (byV asg mc mv)) := by
  have hF := fine_of_at ht
  rw [fine_at hF]
  have hmay := all_may (fits_may hf)
  obtain ⟨hg1, hg2, hmc1, hmc2⟩ := fitsB_le hf
  have hm : mayB t = true := by unfold fitsB at hf; simp only [Bool.and_eq_true] at hf; exact hf.1.1.1
  have hi : isB mc mv = true := by unfold fitsB at hf; simp only [Bool.and_eq_true] at hf; exact hf.1.1.2
  have hi' : (mc = 0 ∧ 0 ≤ mv ∧ mv < 1048576) ∨ (1 ≤ mc ∧ mc ≤ 3 ∧ mv = 0) := by
    unfold isB oneB at hi
    simp only [Bool.or_eq_true, Bool.and_eq_true, decide_eq_true_eq, beq_iff_eq] at hi
    omega
  -- the bound
  have hR : ∃ r : Int, r = (if mc = 0 then mv else -1) ∧ (r = -1 ∨ (0 ≤ r ∧ okV asg r = true)) ∧ rightQ asg (max g mc) r = max g (byV asg mc mv) ∧ (∀ v, 0 ≤ v → v = r → atV asg v ≤ max g (byV asg mc mv)) := by
    refine ⟨_, rfl, ?_⟩
    rcases hi' with ⟨h0, h1, h2⟩ | ⟨h0, h1, h2⟩
    · rw [if_pos h0]
      have hlt : mv < asg.length := by
        rcases Int.lt_or_le mv asg.length with h | h
        · exact h
        · exfalso
          unfold byV at hb
          rw [if_neg (by omega)] at hb
          omega
      have hby : byV asg mc mv = atV asg mv := by unfold byV; rw [if_pos ⟨h0, h1, hlt⟩]
      have hok : okV asg mv = true := by unfold okV oneB; rw [← hby]; simp; exact ⟨hlt, hb⟩
      refine ⟨.inr ⟨h1, hok⟩, ?_, ?_⟩
      · unfold rightQ
        rw [if_pos h1, atK_ok hok, hby]
        omega
      · rintro v _ rfl
        rw [hby]
        omega
    · rw [if_neg (by omega)]
      have hby : byV asg mc mv = mc := by unfold byV; rw [if_neg (by omega)]
      refine ⟨.inl rfl, ?_, ?_⟩
      · unfold rightQ
        rw [if_neg (by omega), hby]
      · intro v h1 h2
        omega
  obtain ⟨r, hr, hro, hRq, hvr⟩ := hR
  have hfit : fitsQ t g mv mc = fitsL (max g mc) r (leastT t).c (leastT t).vars := by unfold fitsQ; rw [← hr]
  have htop : 1 ≤ (leastT t).c ∧ (leastT t).c ≤ 3 := by
    rcases (may_iff t).1 hm with ⟨h1, _⟩ | ⟨h1, h2, h3, _⟩
    · unfold leastT; rw [if_pos h1]; simp
    · unfold leastT; rw [if_neg (by simp [h1])]; exact ⟨h2, h3⟩
  have hvs : ∀ v ∈ (leastT t).vars, 0 ≤ v ∧ okV asg v = true := by
    intro v hv
    unfold leastT at hv
    split at hv
    · simp at hv
    · have := fine_vars hF v hv; exact ⟨this.1, this.2.2⟩
  have hc3 : max g mc ≤ 3 := by omega
  have hcR : max g mc ≤ max g (byV asg mc mv) := by
    rw [← hRq]
    unfold rightQ
    split <;> omega
  rw [hfit] at hmay ⊢
  have hlst := least_val hF
  generalize (leastT t).c = top at htop hmay hlst ⊢
  generalize (leastT t).vars = vs at hvs hmay hlst ⊢
  generalize max g mc = c at hc3 hcR hRq hmay ⊢
  generalize hM : max g (byV asg mc mv) = M at hRq hvr hcR ⊢
  have hM1 : 1 ≤ M ∧ M ≤ 3 := by omega
  have hmem : ∀ x ∈ fitsL c r top vs, (x = ⟨0, top, c, r⟩ ∧ c < top) ∨ (∃ v ∈ vs, x = ⟨v, 0, c, r⟩ ∧ c ≠ 3 ∧ v ≠ r) := by
    intro x hx
    unfold fitsL putsV at hx
    rcases List.mem_append.1 hx with hx | hx
    · unfold putQ at hx
      split at hx
      · rename_i hp
        unfold putsQ at hp
        rw [if_neg (by omega)] at hp
        rw [List.mem_singleton] at hx
        exact .inl ⟨hx, by simpa using hp⟩
      · simp at hx
    · obtain ⟨v, hv, hx⟩ := List.mem_flatMap.1 hx
      unfold putQ at hx
      split at hx
      · rename_i hp
        unfold putsQ at hp
        rw [if_pos rfl] at hp
        rw [List.mem_singleton] at hx
        simp at hp
        exact .inr ⟨v, hv, hx, hp.1, hp.2⟩
      · simp at hx
  have hnb : (fitsL c r top vs).any (badX asg) = false := by
    rw [List.any_eq_false]
    intro x hx
    have hrr : (decide (0 ≤ r) && !okV asg r) = false := by
      rcases hro with rfl | ⟨h1, h2⟩
      · rfl
      · simp [h2]
    rcases hmem x hx with ⟨rfl, _⟩ | ⟨v, hv, rfl, _⟩
    · unfold badX badQ
      rw [hrr]
      simp; omega
    · unfold badX badQ
      rw [hrr, (hvs v hv).2]
      simp
  have hkey : (∀ x ∈ fitsL c r top vs, holdsX asg x = true) ↔ maxV asg top vs ≤ M := by
    rw [maxV_le]
    constructor
    · intro hall
      refine ⟨?_, fun v hv => ?_⟩
      · rcases Int.lt_or_le c top with h | h
        · have := hall ⟨0, top, c, r⟩ (by
            unfold fitsL
            refine List.mem_append.2 (.inl ?_)
            unfold putQ putsQ
            rw [if_neg (show ¬ top = 0 by omega), if_pos (by simpa using h)]
            simp)
          unfold holdsX holdsQ leftQ at this
          simp only [decide_eq_true_eq] at this
          rw [if_neg (by omega), hRq] at this
          exact this
        · omega
      · have h3 := okV_le (hvs v hv).2
        by_cases h : c ≠ 3 ∧ v ≠ r
        · have := hall ⟨v, 0, c, r⟩ (by
            unfold fitsL putsV
            refine List.mem_append.2 (.inr (List.mem_flatMap.2 ⟨v, hv, ?_⟩))
            unfold putQ putsQ
            rw [if_pos rfl, if_pos (by simp; exact h)]
            simp)
          unfold holdsX holdsQ leftQ at this
          simp only [decide_eq_true_eq] at this
          rw [if_pos trivial, hRq, atK_ok (hvs v hv).2] at this
          exact this
        · by_cases h1 : c = 3
          · omega
          · exact hvr v (hvs v hv).1 (by
              rcases Classical.em (v = r) with e | e
              · exact e
              · exact absurd ⟨h1, e⟩ h)
    · rintro ⟨h1, h2⟩ x hx
      rcases hmem x hx with ⟨rfl, _⟩ | ⟨v, hv, rfl, _⟩
      · unfold holdsX holdsQ leftQ
        simp only [decide_eq_true_eq]
        rw [if_neg (by omega), hRq]
        exact h1
      · unfold holdsX holdsQ leftQ
        simp only [decide_eq_true_eq]
        rw [if_pos trivial, hRq, atK_ok (hvs v hv).2]
        exact h2 v hv
  unfold holdsAll
  simp only [hmay, hnb, if_true, Bool.false_eq_true, if_false]
  refine ⟨trivial, ?_⟩
  unfold fitsI
  rw [near_self hM1.1 hM1.2, hlst]
  exact decide_eq_decide.2 ((firstGo_neg asg _ 0 (by omega)).trans hkey)

end Go.Proofs.YtbccnfgceabopaaDoor
