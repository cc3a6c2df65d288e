/- What the reference computes of terms, and that it is what package term computes. No program's function. -/
import Derived.Test.YtimlbpjdgnapoaaPlA
import Derived.Test.YtimlbpjdgnapoaaRefDef
namespace Go.Proofs.Ytimlbpjdgnapoaa
set_option linter.unusedVariables false
set_option linter.unusedSimpArgs false
open Go Go.RowKit

/-! What the reference computes, and that it is what package term computes. No program. -/
theorem mem_insL (out : List Int) (x z : Int) : z ∈ insL out x ↔ z ∈ out ∨ z = x := by
  unfold insL
  by_cases h : out.contains x = true
  · rw [if_pos h]
    have := List.contains_iff_mem.1 h
    constructor
    · exact .inl
    · rintro (h | rfl) <;> assumption
  · rw [if_neg h]; simp
theorem rises_insL {out : List Int} {x : Int} (h : Rises out) (hx : ∀ o ∈ out, o ≤ x) : Rises (insL out x) := by
  unfold insL
  split
  · exact h
  · rename_i hc
    rw [List.contains_iff_mem] at hc
    refine List.pairwise_append.2 ⟨h, by simp, fun a ha b hb => ?_⟩
    rw [List.mem_singleton] at hb
    subst hb
    have := hx a ha
    have hne : a ≠ b := fun e => hc (e ▸ ha)
    omega
theorem bothGo_facts (a b out : List Int) (ha : Rises a) (hb : Rises b) (ho : Rises out) (h1 : ∀ o ∈ out, ∀ x ∈ a, o ≤ x) (h2 : ∀ o ∈ out, ∀ x ∈ b, o ≤ x) :
    Rises (bothGo a b out) ∧ ∀ x, x ∈ bothGo a b out ↔ x ∈ out ∨ x ∈ a ∨ x ∈ b := by
  induction a, b, out using bothGo.induct with
  | case1 out => rw [bothGo]; exact ⟨ho, by simp⟩
  | case2 x a out ih =>
    rw [bothGo]
    obtain ⟨hx, ha'⟩ := List.pairwise_cons.1 ha
    have := ih ha' hb (rises_insL ho fun o hh => h1 o hh x (by simp)) (fun o hh z hz => by
      rcases (mem_insL _ _ _).1 hh with h | rfl
      · exact h1 o h z (List.mem_cons_of_mem _ hz)
      · have := hx z hz; omega) (fun o hh z hz => by simp at hz)
    refine ⟨this.1, fun z => ?_⟩
    rw [this.2, mem_insL, List.mem_cons]
    simp only [List.not_mem_nil, or_false]
    grind
  | case3 y b out ih =>
    rw [bothGo]
    obtain ⟨hx, hb'⟩ := List.pairwise_cons.1 hb
    have := ih ha hb' (rises_insL ho fun o hh => h2 o hh y (by simp)) (fun o hh z hz => by simp at hz) (fun o hh z hz => by
      rcases (mem_insL _ _ _).1 hh with h | rfl
      · exact h2 o h z (List.mem_cons_of_mem _ hz)
      · have := hx z hz; omega)
    refine ⟨this.1, fun z => ?_⟩
    rw [this.2, mem_insL, List.mem_cons]
    simp only [List.not_mem_nil, false_or]
    grind
  | case4 x a y b out hxy ih =>
    rw [bothGo, if_pos hxy]
    obtain ⟨hx, ha'⟩ := List.pairwise_cons.1 ha
    obtain ⟨hy, hb'⟩ := List.pairwise_cons.1 hb
    have := ih ha' hb (rises_insL ho fun o hh => h1 o hh x (by simp)) (fun o hh z hz => by
      rcases (mem_insL _ _ _).1 hh with h | rfl
      · exact h1 o h z (List.mem_cons_of_mem _ hz)
      · have := hx z hz; omega) (fun o hh z hz => by
      rcases (mem_insL _ _ _).1 hh with h | rfl
      · exact h2 o h z hz
      · rcases List.mem_cons.1 hz with rfl | h
        · exact hxy
        · have := hy z h; omega)
    refine ⟨this.1, fun z => ?_⟩
    rw [this.2, mem_insL, List.mem_cons, List.mem_cons]
    grind
  | case5 x a y b out hxy ih =>
    rw [bothGo, if_neg hxy]
    obtain ⟨hx, ha'⟩ := List.pairwise_cons.1 ha
    obtain ⟨hy, hb'⟩ := List.pairwise_cons.1 hb
    have := ih ha hb' (rises_insL ho fun o hh => h2 o hh y (by simp)) (fun o hh z hz => by
      rcases (mem_insL _ _ _).1 hh with h | rfl
      · exact h1 o h z hz
      · rcases List.mem_cons.1 hz with rfl | h
        · omega
        · have := hx z h; omega) (fun o hh z hz => by
      rcases (mem_insL _ _ _).1 hh with h | rfl
      · exact h2 o h z (List.mem_cons_of_mem _ hz)
      · have := hy z hz; omega)
    refine ⟨this.1, fun z => ?_⟩
    rw [this.2, mem_insL, List.mem_cons, List.mem_cons]
    grind
theorem both_eq {a b : List Int} (ha : Rises a) (hb : Rises b) : bothGo a b [] = sset (a ++ b) := by
  have := bothGo_facts a b [] ha hb List.Pairwise.nil (by simp) (by simp)
  refine (sset_eq this.1 fun x => ?_).symm
  rw [this.2]; simp

/-- a term that is what clean makes of it -/
theorem clean_self {t : TermD} (h : mayB t = true) (hn : t.never = false) : cleanT t.c t.vars = t := by
  rcases (may_iff t).1 h with h | ⟨_, _, _, h3, h4, _⟩
  · rw [hn] at h; simp at h
  · obtain ⟨nv, c, l⟩ := t
    simp only at hn h3 h4 ⊢
    subst hn
    unfold cleanT
    congr 1
    split
    · rename_i h
      rcases h with h | h
      · rw [h3 h]
      · rw [h]
    · exact sset_self h4
theorem never_self {t : TermD} (h : mayB t = true) (hn : t.never = true) : t = ⟨true, 0, []⟩ := by
  rcases (may_iff t).1 h with ⟨h1, h2, h3⟩ | ⟨h1, _⟩
  · cases t; simp_all
  · rw [hn] at h1; simp at h1
theorem great_clean {c d : Int} {l m : List Int} (hl : Rises l) (hm : Rises m) : greatT ⟨false, c, l⟩ ⟨false, d, m⟩ = cleanT (max c d) (l ++ m) := by
  unfold greatT cleanT
  simp only
  by_cases h : max c d = 3
  · rw [if_pos h, if_pos (.inl h), h]
  · rw [if_neg h, both_eq hl hm]
    congr 1
    split
    · rename_i h'
      rcases h' with h' | h'
      · exact absurd h' h
      · rw [h', sset_nil]
    · rfl
theorem clean_rises (c : Int) (l : List Int) : Rises (cleanT c l).vars := by
  unfold cleanT
  simp only
  split
  · exact List.Pairwise.nil
  · exact (sset_rises l).1
theorem clean_great (c d : Int) (l m : List Int) (hd : d ≤ 3) (hm : Rises m) : greatT (cleanT c l) ⟨false, d, m⟩ = cleanT (max c d) (l ++ m) ∨ 3 < c := by
  by_cases hc : 3 < c
  · exact .inr hc
  · left
    have := great_clean (c := c) (d := d) (clean_rises c l) hm
    rw [show cleanT c l = ⟨false, c, (cleanT c l).vars⟩ from rfl]
    rw [this]
    unfold cleanT
    simp only
    by_cases h : c = 3
    · have h' : max c d = 3 := by omega
      simp [h']
    · by_cases h' : max c d = 3
      · simp [h']
      · by_cases hl : l = []
        · simp [hl]
        · have hl' := sset_ne hl
          simp only [h, h', hl, hl', false_or, if_false, List.append_eq_nil_iff, false_and]
          congr 1
          refine sset_congr fun x => ?_
          rw [List.mem_append, List.mem_append, (sset_rises l).2]

theorem joinCs_max (c d : Int) : ∀ l : List TermD, joinCs (max c d) l = max d (joinCs c l)
  | [] => by simp [joinCs]; omega
  | t :: l => by
    show joinCs (max (max c d) t.c) l = max d (joinCs (max c t.c) l)
    rw [show max (max c d) t.c = max (max c t.c) d from by omega, joinCs_max]
theorem joinCs_le {c : Int} {l : List TermD} (hc : c ≤ 3) (h : ∀ t ∈ l, t.c ≤ 3) : joinCs c l ≤ 3 := by
  induction l generalizing c with
  | nil => exact hc
  | cons t l ih =>
    have := h t (by simp)
    exact ih (c := max c t.c) (by omega) fun x hx => h x (List.mem_cons_of_mem _ hx)
theorem someT_snoc (ts : List TermD) (t : TermD) : someT (ts ++ [t]) = someT ts ++ (if t.never then [] else [t]) := by
  unfold someT
  rw [List.filter_append]
  cases h : t.never <;> simp [h]
theorem someT_le (ts : List TermD) : (someT ts).length ≤ ts.length := List.length_filter_le _ _
theorem someT_full {ts : List TermD} : ¬ (someT ts).length < ts.length → someT ts = ts := fun h =>
  List.filter_eq_self.2 (by
    have : (ts.filter fun t => !t.never).length = ts.length := by have := someT_le ts; unfold someT at *; omega
    exact List.length_filter_eq_length_iff.1 this)

/-- joined: one more term -/
theorem rJoin_snoc {ts : List TermD} {t : TermD} (hne : ts ≠ []) (hts : ∀ t ∈ ts, mayB t = true) (ht : mayB t = true) : rJoin (joinT ts) t = joinT (ts ++ [t]) := by
  have hc3 : ∀ x ∈ someT ts, x.c ≤ 3 := by
    intro x hx
    obtain ⟨hx1, hx2⟩ := List.mem_filter.1 (show x ∈ ts.filter (fun t => !t.never) from hx)
    rcases (may_iff x).1 (hts x hx1) with h | h
    · rw [h.1] at hx2; simp at hx2
    · exact h.2.2.1
  have hlen : 0 < ts.length := List.length_pos_iff.2 hne
  by_cases hs : someT ts = []
  · have hj : joinT ts = ⟨true, 0, []⟩ := by unfold joinT; rw [if_pos hs]
    rw [hj]
    cases hn : t.never
    · unfold rJoin joinT
      rw [someT_snoc, hs, hn]
      simp only [Bool.and_false, Bool.false_eq_true, if_false, if_true, List.nil_append, List.cons_ne_nil, joinC0]
      rw [someT_snoc, hs, hn]
      simp only [Bool.false_eq_true, if_false, List.nil_append, List.length_singleton, List.length_append]
      rw [if_pos (by omega)]
      have ht' := clean_self ht hn
      rcases (may_iff t).1 ht with h | ⟨_, _, _, _, h4, _⟩
      · rw [hn] at h; simp at h
      · have := great_clean (c := 2) (d := t.c) (l := []) (m := t.vars) List.Pairwise.nil h4
        rw [show (⟨false, t.c, t.vars⟩ : TermD) = t from by cases t; simp_all] at this
        rw [this]
        simp [joinCs, joinVs]
    · unfold rJoin joinT
      rw [someT_snoc, hs, hn]
      simp
  · have hj : joinT ts = cleanT (joinCs (joinC0 ts) (someT ts)) (joinVs (someT ts)) := by unfold joinT; rw [if_neg hs]
    have h0 : joinC0 ts ≤ 3 := by unfold joinC0; split <;> omega
    have hcs := joinCs_le h0 hc3
    rw [hj]
    cases hn : t.never
    · rcases (may_iff t).1 ht with h | ⟨_, _, h3, _, h4, _⟩
      · rw [hn] at h; simp at h
      · have h5 := clean_great (joinCs (joinC0 ts) (someT ts)) t.c (joinVs (someT ts)) t.vars h3 h4
        rcases h5 with h5 | h5
        · rw [show (⟨false, t.c, t.vars⟩ : TermD) = t from by cases t; simp_all] at h5
          unfold rJoin joinT
          rw [show (cleanT (joinCs (joinC0 ts) (someT ts)) (joinVs (someT ts))).never = false from rfl, hn]
          simp only [Bool.and_false, Bool.false_eq_true, if_false]
          rw [h5, someT_snoc, hn]
          simp only [Bool.false_eq_true, if_false]
          rw [if_neg (by simp)]
          have e0 : joinC0 (ts ++ [t]) = joinC0 ts := by
            unfold joinC0
            rw [someT_snoc, hn]
            simp
          rw [e0]
          congr 1
          · simp [joinCs, List.foldl_append]
          · simp [joinVs]
        · omega
    · unfold rJoin joinT
      rw [show (cleanT (joinCs (joinC0 ts) (someT ts)) (joinVs (someT ts))).never = false from rfl, hn]
      simp only [Bool.and_true, Bool.false_eq_true, if_false, if_true]
      rw [someT_snoc, hn]
      simp only [if_true, List.append_nil]
      rw [if_neg hs]
      have e0 : joinC0 (ts ++ [t]) = max (joinC0 ts) 2 := by
        unfold joinC0
        rw [someT_snoc, hn]
        have := someT_le ts
        simp only [if_true, List.append_nil, List.length_append, List.length_singleton]
        rw [if_pos (by omega)]
        split <;> omega
      rw [e0, joinCs_max]
      have h5 := great_clean (c := 2) (d := joinCs (joinC0 ts) (someT ts)) (l := []) (m := (cleanT (joinCs (joinC0 ts) (someT ts)) (joinVs (someT ts))).vars) List.Pairwise.nil (clean_rises _ _)
      rw [show (⟨false, joinCs (joinC0 ts) (someT ts), (cleanT (joinCs (joinC0 ts) (someT ts)) (joinVs (someT ts))).vars⟩ : TermD) = cleanT (joinCs (joinC0 ts) (someT ts)) (joinVs (someT ts)) from rfl] at h5
      rw [h5, List.nil_append]
      unfold cleanT
      simp only
      by_cases h : joinCs (joinC0 ts) (someT ts) = 3
      · have h' : max 2 (joinCs (joinC0 ts) (someT ts)) = 3 := by omega
        simp [h']
      · have h' : max 2 (joinCs (joinC0 ts) (someT ts)) ≠ 3 := by omega
        by_cases hl : joinVs (someT ts) = []
        · simp [hl]
        · have hl' := sset_ne hl
          simp only [h, h', hl, hl', false_or, if_false]
          rw [sset_self (sset_rises _).1]
theorem joinT_one {t : TermD} (ht : mayB t = true) : joinT [t] = t := by
  cases hn : t.never
  · unfold joinT joinC0
    have : someT [t] = [t] := by simp [someT, hn]
    rw [this]
    simp only [List.cons_ne_nil, if_false, List.length_singleton, Nat.lt_irrefl, joinCs, joinVs, List.foldl_cons, List.foldl_nil, List.flatMap_cons, List.flatMap_nil, List.append_nil]
    rcases (may_iff t).1 ht with h | h
    · rw [hn] at h; simp at h
    · rw [show max 1 t.c = t.c from by omega, clean_self ht hn]
  · rw [never_self ht hn]; rfl
theorem sumT_one {t : TermD} (ht : mayB t = true) : sumT [t] = t := by
  cases hn : t.never
  · unfold sumT
    have : someT [t] = [t] := by simp [someT, hn]
    rw [this]
    exact clean_self ht hn
  · rw [never_self ht hn]; rfl
theorem rSum_snoc {ts : List TermD} {t : TermD} (ht : mayB t = true) : rSum (sumT ts) t = sumT (ts ++ [t]) := by
  unfold sumT
  rw [someT_snoc]
  cases hn : t.never
  · simp only [Bool.false_eq_true, if_false]
    have hcs := clean_self ht hn
    match h : someT ts with
    | [] => simp [rSum, hcs]
    | [x] => simp [rSum, cleanT, hn]
    | x :: y :: r => simp [rSum, hn]
  · simp only [if_true, List.append_nil]
    have := never_self ht hn
    match h : someT ts with
    | [] => simp [rSum, this]
    | [x] => simp [rSum, cleanT, hn]
    | x :: y :: r => simp [rSum, hn]
theorem rJoin_two {a b : TermD} (ha : mayB a = true) (hb : mayB b = true) : rJoin a b = joinT [a, b] := by
  have := rJoin_snoc (ts := [a]) (t := b) (by simp) (by simpa using ha) hb
  rwa [joinT_one ha] at this
theorem rSum_two {a b : TermD} (ha : mayB a = true) (hb : mayB b = true) : rSum a b = sumT [a, b] := by
  have := rSum_snoc (ts := [a]) (t := b) hb
  rwa [sumT_one ha] at this
theorem rScale_eq {c v : Int} {t : TermD} (hi : isB c v = true) (ht : mayB t = true) : rScale c v t = scaleT c v t := by
  unfold rScale scaleT
  cases hn : t.never
  · simp only [Bool.false_eq_true, if_false]
    rcases (may_iff t).1 ht with h | ⟨_, h1, _, _, h4, _⟩
    · rw [hn] at h; simp at h
    · have et : (⟨false, t.c, t.vars⟩ : TermD) = t := by cases t; simp_all
      by_cases hc : c = 0
      · rw [if_neg (by simp [hc]), if_pos hc]
        have := great_clean (c := 1) (d := t.c) (l := [v]) (m := t.vars) (by simp [Rises]) h4
        rw [et] at this
        rw [this, show max 1 t.c = t.c from by omega]
        unfold cleanT
        congr 1
        rw [sset_congr (l := [v] ++ t.vars) (m := t.vars ++ [v]) fun x => by simp [or_comm]]
        by_cases h3 : t.c = 3 <;> simp [h3]
      · rw [if_pos hc, if_neg hc]
        have := great_clean (c := c) (d := t.c) (l := []) (m := t.vars) List.Pairwise.nil h4
        rw [et] at this
        rw [this, List.nil_append]
  · simp
/-- under an assignment -/
theorem atGo_eq (asg : List Int) : ∀ (l : List Int) (u : Int), 1 ≤ u → u ≤ 3 → atGo asg u l = rAtGo asg u l
  | [], u, h1, h2 => by
    have : u = 1 ∨ u = 2 ∨ u = 3 := by omega
    rcases this with rfl | rfl | rfl <;> rfl
  | v :: l, u, h1, h2 => by
    unfold atGo rAtGo
    by_cases h : okV asg v = true
    · rw [if_pos h, if_pos h]
      unfold okV oneB at h
      simp only [Bool.and_eq_true, decide_eq_true_eq] at h
      have e : scaleI (atV asg v) u = max u (atV asg v) := by
        unfold scaleI nearI
        rw [if_neg (by omega)]
        split
        · omega
        · rw [if_pos (by omega)]; omega
      rw [e]
      exact atGo_eq asg l _ (by omega) (by omega)
    · rw [if_neg h, if_neg h]
theorem atR_eq {t : TermD} (asg : List Int) (ht : mayB t = true) : atR t asg = rAt t asg := by
  unfold atR rAt
  rw [if_pos ht]
  cases hn : t.never
  · rcases (may_iff t).1 ht with h | h
    · rw [hn] at h; simp at h
    · simp only [Bool.false_eq_true, if_false]
      exact atGo_eq asg _ _ h.2.1 h.2.2.1
  · rw [never_self ht hn]
    simp [atGo]

end Go.Proofs.Ytimlbpjdgnapoaa
