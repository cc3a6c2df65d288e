/- What terms are under an assignment: joined, summed, scaled. No program's function. -/
import Derived.Test.YtimlbpjdgnapoaaPlB
namespace Go.Proofs.Ytimlbpjdgnapoaa
set_option linter.unusedVariables false
set_option linter.unusedSimpArgs false
open Go Go.RowKit

/-! What terms are under an assignment. No program. -/
def maxV (asg : List Int) (c : Int) (l : List Int) : Int := l.foldl (fun a v => max a (atV asg v)) c
theorem maxV_le (asg : List Int) : ∀ (l : List Int) (c k : Int), maxV asg c l ≤ k ↔ c ≤ k ∧ ∀ v ∈ l, atV asg v ≤ k
  | [], c, k => by simp [maxV]
  | v :: l, c, k => by
    have := maxV_le asg l (max c (atV asg v)) k
    unfold maxV at this ⊢
    rw [List.foldl_cons, this]
    simp only [List.mem_cons, forall_eq_or_imp]
    constructor
    · rintro ⟨h1, h2⟩; exact ⟨by omega, by omega, h2⟩
    · rintro ⟨h1, h2, h3⟩; exact ⟨by omega, h3⟩
theorem eq_of_le {a b : Int} (h : ∀ k, a ≤ k ↔ b ≤ k) : a = b := by
  have h1 := (h a).1 (Int.le_refl _)
  have h2 := (h b).2 (Int.le_refl _)
  omega
theorem okV_le {asg : List Int} {v : Int} (h : okV asg v = true) : 1 ≤ atV asg v ∧ atV asg v ≤ 3 := by
  unfold okV oneB at h
  simp only [Bool.and_eq_true, decide_eq_true_eq] at h
  exact h.2
theorem atGo_ok {asg : List Int} : ∀ (l : List Int) (u : Int), 1 ≤ u → u ≤ 3 → (∀ v ∈ l, okV asg v = true) → atGo asg u l = (maxV asg u l, 0)
  | [], u, _, _, _ => rfl
  | v :: l, u, h1, h2, h => by
    have hv := h v (by simp)
    have hb := okV_le hv
    unfold atGo
    rw [if_pos hv]
    have e : scaleI (atV asg v) u = max u (atV asg v) := by
      unfold scaleI nearI
      rw [if_neg (by omega)]
      split
      · omega
      · rw [if_pos (by omega)]; omega
    rw [e, atGo_ok l _ (by omega) (by omega) fun x hx => h x (List.mem_cons_of_mem _ hx)]
    rfl
theorem ok_of_atGo {asg : List Int} : ∀ (l : List Int) (u : Int), (atGo asg u l).2 = 0 → ∀ v ∈ l, okV asg v = true
  | [], _, _, v, hv => by simp at hv
  | x :: l, u, h, v, hv => by
    unfold atGo at h
    by_cases hx : okV asg x = true
    · rw [if_pos hx] at h
      rcases List.mem_cons.1 hv with rfl | hv
      · exact hx
      · exact ok_of_atGo l _ h v hv
    · rw [if_neg hx] at h
      simp at h

/-- t may be, and its variables have places -/
def Fine (asg : List Int) (t : TermD) : Prop := mayB t = true ∧ ∀ v ∈ t.vars, okV asg v = true
def valT (asg : List Int) (t : TermD) : Int := if t.never then 0 else maxV asg t.c t.vars
theorem fine_at {asg : List Int} {t : TermD} (h : Fine asg t) : atR t asg = (valT asg t, 0) := by
  unfold atR valT
  rw [if_pos h.1]
  cases hn : t.never
  · rcases (may_iff t).1 h.1 with h' | h'
    · rw [hn] at h'; simp at h'
    · rw [atGo_ok _ _ h'.2.1 h'.2.2.1 h.2]; rfl
  · rw [never_self h.1 hn]; rfl
theorem fine_of_at {asg : List Int} {t : TermD} (h : (atR t asg).2 = 0) : Fine asg t := by
  unfold atR at h
  cases hm : mayB t
  · rw [hm] at h; simp at h
  · rw [hm] at h
    exact ⟨hm, ok_of_atGo _ _ h⟩
theorem maxV_ge {asg : List Int} {c : Int} {l : List Int} : c ≤ maxV asg c l := ((maxV_le asg l c _).1 (Int.le_refl _)).1
theorem fine_val {asg : List Int} {t : TermD} (h : Fine asg t) (hn : t.never = false) : 1 ≤ maxV asg t.c t.vars ∧ maxV asg t.c t.vars ≤ 3 := by
  rcases (may_iff t).1 h.1 with h' | h'
  · rw [hn] at h'; simp at h'
  · exact ⟨Int.le_trans h'.2.1 maxV_ge, (maxV_le _ _ _ _).2 ⟨h'.2.2.1, fun v hv => (okV_le (h.2 v hv)).2⟩⟩
theorem fine_clean {asg : List Int} {c : Int} {l : List Int} (h1 : 1 ≤ c) (h2 : c ≤ 3) (h : ∀ v ∈ l, 0 ≤ v ∧ v < 1048576 ∧ okV asg v = true) : Fine asg (cleanT c l) ∧ valT asg (cleanT c l) = maxV asg c l := by
  have hmem : ∀ v ∈ (cleanT c l).vars, v ∈ l := by
    intro v hv
    unfold cleanT at hv
    simp only at hv
    split at hv
    · simp at hv
    · exact ((sset_rises l).2 v).1 hv
  refine ⟨⟨(may_iff _).2 (.inr ⟨rfl, h1, h2, fun e => ?_, clean_rises c l, fun v hv => ⟨(h v (hmem v hv)).1, (h v (hmem v hv)).2.1⟩⟩), fun v hv => (h v (hmem v hv)).2.2⟩, ?_⟩
  · unfold cleanT at e ⊢
    simp only at e ⊢
    rw [if_pos (.inl e)]
  · show maxV asg c (cleanT c l).vars = _
    refine eq_of_le fun k => ?_
    rw [maxV_le, maxV_le]
    unfold cleanT
    simp only
    split
    · rename_i h'
      rcases h' with h' | h'
      · constructor
        · rintro ⟨a, _⟩
          exact ⟨a, fun v hv => Int.le_trans (okV_le (h v hv).2.2).2 (by omega)⟩
        · rintro ⟨a, _⟩; exact ⟨a, by simp⟩
      · subst h'; simp
    · constructor
      · rintro ⟨a, b⟩; exact ⟨a, fun v hv => b v (((sset_rises l).2 v).2 hv)⟩
      · rintro ⟨a, b⟩; exact ⟨a, fun v hv => b v (((sset_rises l).2 v).1 hv)⟩
theorem fine_vars {asg : List Int} {t : TermD} (h : Fine asg t) : ∀ v ∈ t.vars, 0 ≤ v ∧ v < 1048576 ∧ okV asg v = true := by
  intro v hv
  rcases (may_iff t).1 h.1 with h' | h'
  · rw [h'.2.2] at hv; simp at hv
  · exact ⟨(h'.2.2.2.2.2 v hv).1, (h'.2.2.2.2.2 v hv).2, h.2 v hv⟩
theorem fine_c {asg : List Int} {t : TermD} (h : Fine asg t) (hn : t.never = false) : 1 ≤ t.c ∧ t.c ≤ 3 := by
  rcases (may_iff t).1 h.1 with h' | h'
  · rw [hn] at h'; simp at h'
  · exact ⟨h'.2.1, h'.2.2.1⟩

theorem means_join {asg : List Int} {a b : TermD} (ha : Fine asg a) (hb : Fine asg b) : Fine asg (joinT [a, b]) ∧ valT asg (joinT [a, b]) = joinI [valT asg a, valT asg b] := by
  cases hna : a.never
  · have ⟨c1, c2⟩ := fine_c ha hna
    have ⟨v1, v2⟩ := fine_val ha hna
    have e1 : valT asg a = maxV asg a.c a.vars := by unfold valT; rw [hna]; rfl
    cases hnb : b.never
    · have ⟨d1, d2⟩ := fine_c hb hnb
      have ⟨w1, w2⟩ := fine_val hb hnb
      have e2 : valT asg b = maxV asg b.c b.vars := by unfold valT; rw [hnb]; rfl
      have ej : joinT [a, b] = cleanT (max (max 1 a.c) b.c) (a.vars ++ b.vars) := by
        simp [joinT, someT, joinC0, joinCs, joinVs, hna, hnb]
      rw [ej, e1, e2]
      have := fine_clean (asg := asg) (c := max (max 1 a.c) b.c) (l := a.vars ++ b.vars) (by omega) (by omega) (fun v hv => by
        rcases List.mem_append.1 hv with h | h
        · exact fine_vars ha v h
        · exact fine_vars hb v h)
      refine ⟨this.1, this.2.trans ?_⟩
      have : joinI [maxV asg a.c a.vars, maxV asg b.c b.vars] = max (maxV asg a.c a.vars) (maxV asg b.c b.vars) := by
        unfold joinI joinN joinM
        simp only [List.foldl_cons, List.foldl_nil, Bool.false_or]
        rw [beq_eq_false_iff_ne.2 (by omega : maxV asg a.c a.vars ≠ 0), beq_eq_false_iff_ne.2 (by omega : maxV asg b.c b.vars ≠ 0)]
        simp
        omega
      rw [this]
      refine eq_of_le fun k => ?_
      have x1 := maxV_le asg a.vars a.c k
      have x2 := maxV_le asg b.vars b.c k
      rw [maxV_le]
      constructor
      · rintro ⟨p, q⟩
        have := x1.2 ⟨by omega, fun v hv => q v (List.mem_append_left _ hv)⟩
        have := x2.2 ⟨by omega, fun v hv => q v (List.mem_append_right _ hv)⟩
        omega
      · intro p
        have ⟨p1, p2⟩ := x1.1 (by omega)
        have ⟨q1, q2⟩ := x2.1 (by omega)
        refine ⟨by omega, fun v hv => ?_⟩
        rcases List.mem_append.1 hv with h | h
        · exact p2 v h
        · exact q2 v h
    · have e2 : valT asg b = 0 := by unfold valT; rw [hnb]; rfl
      have ej : joinT [a, b] = cleanT (max 2 a.c) a.vars := by
        simp [joinT, someT, joinC0, joinCs, joinVs, hna, hnb]
      rw [ej, e1, e2]
      have := fine_clean (asg := asg) (c := max 2 a.c) (l := a.vars) (by omega) (by omega) (fine_vars ha)
      refine ⟨this.1, this.2.trans ?_⟩
      have : joinI [maxV asg a.c a.vars, 0] = max 2 (maxV asg a.c a.vars) := by
        unfold joinI joinN joinM
        simp only [List.foldl_cons, List.foldl_nil, Bool.false_or]
        rw [beq_eq_false_iff_ne.2 (by omega : maxV asg a.c a.vars ≠ 0)]
        simp
        split <;> omega
      rw [this]
      refine eq_of_le fun k => ?_
      have x1 := maxV_le asg a.vars a.c k
      rw [maxV_le]
      constructor
      · rintro ⟨p, q⟩
        have := x1.2 ⟨by omega, q⟩
        omega
      · intro p
        have ⟨p1, p2⟩ := x1.1 (by omega)
        exact ⟨by omega, p2⟩
  · have e1 : valT asg a = 0 := by unfold valT; rw [hna]; rfl
    cases hnb : b.never
    · have ⟨d1, d2⟩ := fine_c hb hnb
      have ⟨w1, w2⟩ := fine_val hb hnb
      have e2 : valT asg b = maxV asg b.c b.vars := by unfold valT; rw [hnb]; rfl
      have ej : joinT [a, b] = cleanT (max 2 b.c) b.vars := by
        simp [joinT, someT, joinC0, joinCs, joinVs, hna, hnb]
      rw [ej, e1, e2]
      have := fine_clean (asg := asg) (c := max 2 b.c) (l := b.vars) (by omega) (by omega) (fine_vars hb)
      refine ⟨this.1, this.2.trans ?_⟩
      have : joinI [0, maxV asg b.c b.vars] = max 2 (maxV asg b.c b.vars) := by
        unfold joinI joinN joinM
        simp only [List.foldl_cons, List.foldl_nil, Bool.false_or]
        rw [beq_eq_false_iff_ne.2 (by omega : maxV asg b.c b.vars ≠ 0)]
        simp
        split <;> omega
      rw [this]
      refine eq_of_le fun k => ?_
      have x1 := maxV_le asg b.vars b.c k
      rw [maxV_le]
      constructor
      · rintro ⟨p, q⟩
        have := x1.2 ⟨by omega, q⟩
        omega
      · intro p
        have ⟨p1, p2⟩ := x1.1 (by omega)
        exact ⟨by omega, p2⟩
    · have e2 : valT asg b = 0 := by unfold valT; rw [hnb]; rfl
      have ej : joinT [a, b] = ⟨true, 0, []⟩ := by simp [joinT, someT, hna, hnb]
      rw [ej, e1, e2]
      exact ⟨⟨by decide +kernel, by simp⟩, rfl⟩
theorem means_sum {asg : List Int} {a b : TermD} (ha : Fine asg a) (hb : Fine asg b) : Fine asg (sumT [a, b]) ∧ valT asg (sumT [a, b]) = sumI [valT asg a, valT asg b] := by
  cases hna : a.never
  · have ⟨v1, v2⟩ := fine_val ha hna
    have e1 : valT asg a = maxV asg a.c a.vars := by unfold valT; rw [hna]; rfl
    cases hnb : b.never
    · have ⟨w1, w2⟩ := fine_val hb hnb
      have e2 : valT asg b = maxV asg b.c b.vars := by unfold valT; rw [hnb]; rfl
      have ej : sumT [a, b] = ⟨false, 3, []⟩ := by simp [sumT, someT, hna, hnb]
      rw [ej, e1, e2]
      refine ⟨⟨by decide +kernel, by simp⟩, ?_⟩
      show 3 = _
      unfold sumI
      simp only [List.foldl_cons, List.foldl_nil, if_true]
      rw [if_neg (by omega), if_neg (by omega)]
    · have e2 : valT asg b = 0 := by unfold valT; rw [hnb]; rfl
      have ej : sumT [a, b] = a := by
        have := clean_self ha.1 hna
        simp [sumT, someT, hna, hnb, this]
      rw [ej, e2]
      refine ⟨ha, ?_⟩
      rw [e1]
      unfold sumI
      simp only [List.foldl_cons, List.foldl_nil, if_true]
      rw [if_neg (by omega)]
      omega
  · have e1 : valT asg a = 0 := by unfold valT; rw [hna]; rfl
    cases hnb : b.never
    · have ⟨w1, w2⟩ := fine_val hb hnb
      have e2 : valT asg b = maxV asg b.c b.vars := by unfold valT; rw [hnb]; rfl
      have ej : sumT [a, b] = b := by
        have := clean_self hb.1 hnb
        simp [sumT, someT, hna, hnb, this]
      rw [ej, e1]
      refine ⟨hb, ?_⟩
      rw [e2]
      unfold sumI
      simp only [List.foldl_cons, List.foldl_nil, if_true]
      rw [if_neg (by omega)]
      omega
    · have e2 : valT asg b = 0 := by unfold valT; rw [hnb]; rfl
      have ej : sumT [a, b] = ⟨true, 0, []⟩ := by simp [sumT, someT, hna, hnb]
      rw [ej, e1, e2]
      exact ⟨⟨by decide +kernel, by simp⟩, rfl⟩
/-- what a multiplicity is under an assignment -/
def byV (asg : List Int) (c v : Int) : Int := if c = 0 ∧ 0 ≤ v ∧ v < asg.length then atV asg v else c
theorem means_scale {asg : List Int} {a : TermD} {c v : Int} (ha : Fine asg a) (hi : isB c v = true) (h1 : 1 ≤ byV asg c v) (h2 : byV asg c v ≤ 3) :
    Fine asg (scaleT c v a) ∧ valT asg (scaleT c v a) = scaleI (byV asg c v) (valT asg a) := by
  cases hna : a.never
  · have ⟨c1, c2⟩ := fine_c ha hna
    have ⟨v1, v2⟩ := fine_val ha hna
    have e1 : valT asg a = maxV asg a.c a.vars := by unfold valT; rw [hna]; rfl
    have es : scaleI (byV asg c v) (maxV asg a.c a.vars) = max (maxV asg a.c a.vars) (byV asg c v) := by
      unfold scaleI nearI
      rw [if_neg (by omega), if_pos h2]
      split <;> omega
    rw [e1, es]
    unfold isB oneB at hi
    simp only [Bool.or_eq_true, Bool.and_eq_true, beq_iff_eq, decide_eq_true_eq] at hi
    by_cases hc : c = 0
    · subst hc
      have hv : 0 ≤ v ∧ v < 1048576 := by omega
      by_cases hl : v < asg.length
      · have eb : byV asg 0 v = atV asg v := by unfold byV; rw [if_pos ⟨rfl, hv.1, hl⟩]
        rw [eb] at h1 h2 ⊢
        have hok : okV asg v = true := by unfold okV oneB; simp [hl, h1, h2]
        have ej : scaleT 0 v a = cleanT a.c (a.vars ++ [v]) := by unfold scaleT; rw [hna]; simp
        rw [ej]
        have := fine_clean (asg := asg) (c := a.c) (l := a.vars ++ [v]) c1 c2 (fun x hx => by
          rcases List.mem_append.1 hx with h | h
          · exact fine_vars ha x h
          · rw [List.mem_singleton] at h; subst h; exact ⟨hv.1, hv.2, hok⟩)
        refine ⟨this.1, this.2.trans ?_⟩
        unfold maxV
        rw [List.foldl_append]
        rfl
      · unfold byV at h1
        rw [if_neg (by omega)] at h1
        omega
    · have eb : byV asg c v = c := by unfold byV; rw [if_neg (by omega)]
      rw [eb] at h1 h2 ⊢
      have ej : scaleT c v a = cleanT (max c a.c) a.vars := by unfold scaleT; rw [hna]; simp [hc]
      rw [ej]
      have := fine_clean (asg := asg) (c := max c a.c) (l := a.vars) (by omega) (by omega) (fine_vars ha)
      refine ⟨this.1, this.2.trans ?_⟩
      refine eq_of_le fun k => ?_
      have x1 := maxV_le asg a.vars a.c k
      rw [maxV_le]
      constructor
      · rintro ⟨p, q⟩
        have := x1.2 ⟨by omega, q⟩
        omega
      · intro p
        have ⟨p1, p2⟩ := x1.1 (by omega)
        exact ⟨by omega, p2⟩
  · have e1 : valT asg a = 0 := by unfold valT; rw [hna]; rfl
    have ej : scaleT c v a = a := by unfold scaleT; rw [hna]; rfl
    rw [ej, e1]
    exact ⟨ha, rfl⟩

end Go.Proofs.Ytimlbpjdgnapoaa
