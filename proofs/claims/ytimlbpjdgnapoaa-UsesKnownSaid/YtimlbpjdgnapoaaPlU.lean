/- Plain laws of uses: what is joined, summed, scaled; when two are the same. No program. -/
import Derived.Test.YtimlbpjdgnapoaaUsesG
import Derived.Test.YtimlbpjdgnapoaaPlC
namespace Go.Proofs.Ytimlbpjdgnapoaa
set_option linter.unusedVariables false
set_option linter.unusedSimpArgs false
open Go Go.RowKit

deriving instance DecidableEq for TermD
deriving instance DecidableEq for UseD

/-! what is joined, summed, scaled may be (TextI's lines) -/
theorem may_clean {c : Int} {l : List Int} (h1 : 1 ≤ c) (h2 : c ≤ 3) (h : ∀ v ∈ l, 0 ≤ v ∧ v < 1048576) : mayB (cleanT c l) = true := by
  have hmem : ∀ v ∈ (cleanT c l).vars, v ∈ l := by
    intro v hv
    unfold cleanT at hv
    simp only at hv
    split at hv
    · simp at hv
    · exact ((sset_rises l).2 v).1 hv
  refine (may_iff _).2 (.inr ⟨rfl, h1, h2, fun e => ?_, ?_, fun v hv => h v (hmem v hv)⟩)
  · unfold cleanT at e ⊢
    simp only at e ⊢
    rw [if_pos (.inl e)]
  · unfold cleanT
    simp only
    split
    · exact List.Pairwise.nil
    · exact (sset_rises l).1
theorem may_vars {t : TermD} (h : mayB t = true) : ∀ v ∈ t.vars, 0 ≤ v ∧ v < 1048576 := by
  intro v hv
  rcases (may_iff t).1 h with h | h
  · rw [h.2.2] at hv; simp at hv
  · exact h.2.2.2.2.2 v hv
theorem may_c {t : TermD} (h : mayB t = true) (hn : t.never = false) : 1 ≤ t.c ∧ t.c ≤ 3 := by
  rcases (may_iff t).1 h with h' | h'
  · rw [hn] at h'; simp at h'
  · exact ⟨h'.2.1, h'.2.2.1⟩
theorem may_join {a b : TermD} (ha : mayB a = true) (hb : mayB b = true) : mayB (joinT [a, b]) = true := by
  have va := may_vars ha
  have vb := may_vars hb
  cases hna : a.never
  · have ⟨c1, c2⟩ := may_c ha hna
    cases hnb : b.never
    · have ⟨d1, d2⟩ := may_c hb hnb
      have ej : joinT [a, b] = cleanT (max (max 1 a.c) b.c) (a.vars ++ b.vars) := by
        simp [joinT, someT, joinC0, joinCs, joinVs, hna, hnb]
      rw [ej]
      exact may_clean (by omega) (by omega) fun v hv => (List.mem_append.1 hv).elim (va v) (vb v)
    · have ej : joinT [a, b] = cleanT (max 2 a.c) a.vars := by
        simp [joinT, someT, joinC0, joinCs, joinVs, hna, hnb]
      rw [ej]
      exact may_clean (by omega) (by omega) va
  · cases hnb : b.never
    · have ⟨d1, d2⟩ := may_c hb hnb
      have ej : joinT [a, b] = cleanT (max 2 b.c) b.vars := by
        simp [joinT, someT, joinC0, joinCs, joinVs, hna, hnb]
      rw [ej]
      exact may_clean (by omega) (by omega) vb
    · have ej : joinT [a, b] = ⟨true, 0, []⟩ := by simp [joinT, someT, hna, hnb]
      rw [ej]; decide +kernel
theorem may_sum {a b : TermD} (ha : mayB a = true) (hb : mayB b = true) : mayB (sumT [a, b]) = true := by
  unfold sumT
  cases hna : a.never
  · cases hnb : b.never
    · simp only [someT, List.filter_cons, hna, hnb, Bool.not_false, if_true, List.filter_nil]; decide +kernel
    · simp only [someT, List.filter_cons, hna, hnb, Bool.not_false, if_true, List.filter_nil, Bool.not_true, Bool.false_eq_true, if_false]
      have ⟨c1, c2⟩ := may_c ha hna
      exact may_clean c1 c2 (may_vars ha)
  · cases hnb : b.never
    · simp only [someT, List.filter_cons, hna, hnb, Bool.not_false, if_true, List.filter_nil, Bool.not_true, Bool.false_eq_true, if_false]
      have ⟨c1, c2⟩ := may_c hb hnb
      exact may_clean c1 c2 (may_vars hb)
    · simp only [someT, List.filter_cons, hna, hnb, List.filter_nil, Bool.not_true, Bool.false_eq_true, if_false]; decide +kernel
theorem may_scale {c v : Int} {a : TermD} (hi : isB c v = true) (ha : mayB a = true) : mayB (scaleT c v a) = true := by
  unfold scaleT
  cases hna : a.never
  · have ⟨c1, c2⟩ := may_c ha hna
    unfold isB oneB at hi
    simp only [Bool.or_eq_true, Bool.and_eq_true, beq_iff_eq, decide_eq_true_eq] at hi
    simp only [Bool.false_eq_true, if_false]
    by_cases h0 : c = 0
    · rw [if_pos h0]
      refine may_clean c1 c2 fun x hx => ?_
      rcases List.mem_append.1 hx with h | h
      · exact may_vars ha x h
      · rw [List.mem_singleton] at h; subst h; omega
    · rw [if_neg h0]
      exact may_clean (by omega) (by omega) (may_vars ha)
  · simpa using ha

theorem snoc_ind {α : Type} {P : List α → Prop} (h0 : P []) (h1 : ∀ l a, P l → P (l ++ [a])) (l : List α) : P l := by
  rw [← List.reverse_reverse l]
  induction l.reverse with
  | nil => exact h0
  | cons a r ih => rw [List.reverse_cons]; exact h1 _ _ ih
theorem joinT_may : ∀ ts : List TermD, (∀ t ∈ ts, mayB t = true) → mayB (joinT ts) = true := by
  intro ts
  induction ts using snoc_ind with
  | h0 => intro _; decide +kernel
  | h1 ts t ih =>
    intro h
    have h1 := ih fun x hx => h x (by simp [hx])
    have ht := h t (by simp)
    by_cases h0 : ts = []
    · subst h0
      rw [List.nil_append, joinT_one ht]; exact ht
    · rw [← rJoin_snoc h0 (fun x hx => h x (by simp [hx])) ht, rJoin_two h1 ht]
      exact may_join h1 ht
theorem sumT_may : ∀ ts : List TermD, (∀ t ∈ ts, mayB t = true) → mayB (sumT ts) = true := by
  intro ts
  induction ts using snoc_ind with
  | h0 => intro _; decide +kernel
  | h1 ts t ih =>
    intro h
    have h1 := ih fun x hx => h x (by simp [hx])
    have ht := h t (by simp)
    rw [← rSum_snoc ht, rSum_two h1 ht]
    exact may_sum h1 ht
theorem joinT_some {ts : List TermD} {t : TermD} (h : t ∈ ts) (hn : t.never = false) : (joinT ts).never = false := by
  have : someT ts ≠ [] := List.ne_nil_of_mem (List.mem_filter.2 ⟨h, by simp [hn]⟩)
  unfold joinT
  rw [if_neg this]; rfl
theorem sumT_some {ts : List TermD} {t : TermD} (h : t ∈ ts) (hn : t.never = false) : (sumT ts).never = false := by
  have : someT ts ≠ [] := List.ne_nil_of_mem (List.mem_filter.2 ⟨h, by simp [hn]⟩)
  unfold sumT
  split
  · rename_i e; exact absurd e this
  · rfl
  · rfl
theorem someT_none {ts : List TermD} (h : ∀ t ∈ ts, t.never = true) : someT ts = [] := by
  unfold someT
  rw [List.filter_eq_nil_iff]
  intro t ht
  simp [h t ht]
theorem joinT_none {ts : List TermD} (h : ∀ t ∈ ts, t.never = true) : joinT ts = ⟨true, 0, []⟩ := by unfold joinT; rw [if_pos (someT_none h)]
theorem sumT_none {ts : List TermD} (h : ∀ t ∈ ts, t.never = true) : sumT ts = ⟨true, 0, []⟩ := by unfold sumT; rw [someT_none h]
theorem scaleT_never {c v : Int} {t : TermD} : (scaleT c v t).never = t.never := by
  unfold scaleT
  cases hn : t.never
  · simp only [Bool.false_eq_true, if_false]
    split <;> rfl
  · simp [hn]

/-! uses that may be -/
structure Good (l : List UseD) : Prop where
  rise : Rises (l.map (·.v))
  rng : ∀ x ∈ l, 0 ≤ x.v ∧ x.v < 1048576
  may : ∀ x ∈ l, x.t.never = false ∧ mayB x.t = true
theorem good_of {l : List UseD} (h : mayU l = true) : Good l :=
  ⟨(mayU_rises h).1, (mayU_rise h).rng, fun x hx => ((mayFrom_rise _ _ h).1 x hx).2.2.2⟩
theorem mayFrom_good : ∀ (l : List UseD) (p : Int), Rises (l.map (·.v)) → (∀ x ∈ l, p < x.v ∧ 0 ≤ x.v ∧ x.v < 1048576 ∧ x.t.never = false ∧ mayB x.t = true) → mayFrom p l = true
  | [], _, _, _ => rfl
  | x :: l, p, hr, h => by
    have hx := h x (by simp)
    unfold mayFrom mayS
    rw [mayFrom_good l x.v (List.Pairwise.of_cons hr) (fun y hy => ⟨List.rel_of_pairwise_cons hr (List.mem_map_of_mem hy), (h y (by simp [hy])).2⟩)]
    simp [hx]
theorem Good.mayU {l : List UseD} (h : Good l) : mayU l = true :=
  mayFrom_good l (-1) h.rise fun x hx => ⟨by have := h.rng x hx; omega, (h.rng x hx).1, (h.rng x hx).2, h.may x hx⟩
theorem mayU_iff {l : List UseD} : mayU l = true ↔ Good l := ⟨good_of, Good.mayU⟩

theorem rises_nodup {l : List Int} (h : Rises l) : l.Nodup := by
  unfold Rises at h
  exact h.imp fun h e => by omega
theorem ofU_mem {l : List UseD} (h : Good l) {x : UseD} (hx : x ∈ l) : ofU l x.v = x.t := by
  obtain ⟨j, hj, rfl⟩ := List.getElem_of_mem hx
  exact ofU_some (mayU_rise h.mayU) hj rfl
theorem ofU_in {l : List UseD} (h : Good l) (v : Int) : (ofU l v).never = false ↔ v ∈ l.map (·.v) := by
  constructor
  · intro hn
    rw [List.mem_map]
    refine Classical.byContradiction fun hno => ?_
    rw [ofU_none (fun x hx e => hno ⟨x, hx, e⟩)] at hn
    cases hn
  · intro hv
    obtain ⟨x, hx, rfl⟩ := List.mem_map.1 hv
    rw [ofU_mem h hx]
    exact (h.may x hx).1
theorem good_ext {a b : List UseD} (ha : Good a) (hb : Good b) (h : ∀ v, ofU a v = ofU b v) : a = b := by
  have e : a.map (·.v) = b.map (·.v) := rises_ext _ _ ha.rise hb.rise fun v => by rw [← ofU_in ha, ← ofU_in hb, h]
  have hl : a.length = b.length := by have := congrArg List.length e; simpa using this
  refine List.ext_getElem hl fun i h1 h2 => ?_
  have ev : a[i].v = b[i].v := by
    have : (a.map (·.v))[i]'(by simpa using h1) = (b.map (·.v))[i]'(by simpa using h2) := by simp only [e]
    rwa [List.getElem_map, List.getElem_map] at this
  have et : a[i].t = b[i].t := by
    rw [← ofU_mem ha (List.getElem_mem h1), ← ofU_mem hb (List.getElem_mem h2), ev]
    exact h _
  cases hA : a[i]; cases hB : b[i]
  rw [hA, hB] at ev et
  simp only at ev et
  rw [ev, et]

/-- a function of terms that may stand in uses.each -/
structure EachF (F : List TermD → TermD) : Prop where
  may : ∀ ts, (∀ t ∈ ts, mayB t = true) → mayB (F ts) = true
  some : ∀ ts (t : TermD), t ∈ ts → t.never = false → (F ts).never = false
  none : ∀ ts, (∀ t ∈ ts, t.never = true) → F ts = ⟨true, 0, []⟩
theorem eachJoin : EachF joinT := ⟨joinT_may, fun _ _ h hn => joinT_some h hn, fun _ h => joinT_none h⟩
theorem eachSum : EachF sumT := ⟨sumT_may, fun _ _ h hn => sumT_some h hn, fun _ h => sumT_none h⟩

theorem mem_varsOf_of {ls : List (List UseD)} (h : ∀ l ∈ ls, Good l) (v : Int) : v ∈ varsOf ls ↔ ∃ l ∈ ls, (ofU l v).never = false := by
  rw [varsOf_mem]
  constructor
  · rintro ⟨l, hl, x, hx, rfl⟩
    exact ⟨l, hl, (ofU_in (h l hl) _).2 (List.mem_map_of_mem hx)⟩
  · rintro ⟨l, hl, hn⟩
    obtain ⟨x, hx, e⟩ := List.mem_map.1 ((ofU_in (h l hl) _).1 hn)
    exact ⟨l, hl, x, hx, e⟩
theorem each_good {F : List TermD → TermD} (hF : EachF F) {ls : List (List UseD)} (h : ∀ l ∈ ls, Good l) : Good (eachU F ls) := by
  have hm : (eachU F ls).map (·.v) = sset (varsOf ls) := by
    unfold eachU
    rw [List.map_map]
    conv => rhs; rw [← List.map_id (sset (varsOf ls))]
    rfl
  refine ⟨by rw [hm]; exact (sset_rises _).1, fun x hx => ?_, fun x hx => ?_⟩
  · have : x.v ∈ (eachU F ls).map (·.v) := List.mem_map_of_mem hx
    rw [hm] at this
    obtain ⟨l, hl, y, hy, e⟩ := varsOf_mem.1 (((sset_rises _).2 _).1 this)
    rw [← e]
    exact (h l hl).rng y hy
  · unfold eachU at hx
    obtain ⟨v, hv, rfl⟩ := List.mem_map.1 hx
    obtain ⟨l, hl, hn⟩ := (mem_varsOf_of h v).1 (((sset_rises _).2 _).1 hv)
    refine ⟨hF.some _ (ofU l v) (List.mem_map.2 ⟨l, hl, rfl⟩) hn, hF.may _ fun t ht => ?_⟩
    obtain ⟨l', hl', rfl⟩ := List.mem_map.1 ht
    exact mayU_ofU (h l' hl').mayU v
theorem each_of {F : List TermD → TermD} (hF : EachF F) {ls : List (List UseD)} (h : ∀ l ∈ ls, Good l) (v : Int) : ofU (eachU F ls) v = F (ls.map fun l => ofU l v) := by
  by_cases hv : v ∈ varsOf ls
  · have hx : (⟨v, F (ls.map fun l => ofU l v)⟩ : UseD) ∈ eachU F ls := List.mem_map.2 ⟨v, ((sset_rises _).2 _).2 hv, rfl⟩
    exact ofU_mem (each_good hF h) hx
  · rw [ofU_none (fun x hx e => hv ?_)]
    · refine (hF.none _ fun t ht => ?_).symm
      obtain ⟨l, hl, rfl⟩ := List.mem_map.1 ht
      cases hn : (ofU l v).never
      · exact absurd ((mem_varsOf_of h v).2 ⟨l, hl, hn⟩) hv
      · rfl
    · unfold eachU at hx
      obtain ⟨u, hu, rfl⟩ := List.mem_map.1 hx
      rw [← e]
      exact ((sset_rises _).2 _).1 hu
theorem good_nil : Good [] := ⟨List.Pairwise.nil, fun x hx => by simp at hx, fun x hx => by simp at hx⟩

/-! scaled -/
def scF (c v : Int) (ts : List TermD) : TermD := scaleT c v (ts.headD ⟨true, 0, []⟩)
theorem scaleU_eq {c v : Int} {l : List UseD} (h : Good l) : scaleU c v l = l.map fun x => ⟨x.v, scaleT c v x.t⟩ := by
  unfold scaleU eachU
  have e : varsOf [l] = l.map (·.v) := by simp [varsOf]
  rw [e, sset_self h.rise, List.map_map]
  refine List.map_congr_left fun x hx => ?_
  show (⟨x.v, scaleT c v (ofU l x.v)⟩ : UseD) = _
  rw [ofU_mem h hx]
theorem scaleU_good {c v : Int} {l : List UseD} (h : Good l) (hi : isB c v = true) : Good (scaleU c v l) := by
  rw [scaleU_eq h]
  refine ⟨?_, fun x hx => ?_, fun x hx => ?_⟩
  · rw [List.map_map]; exact h.rise
  · obtain ⟨y, hy, rfl⟩ := List.mem_map.1 hx
    exact h.rng y hy
  · obtain ⟨y, hy, rfl⟩ := List.mem_map.1 hx
    exact ⟨by rw [scaleT_never]; exact (h.may y hy).1, may_scale hi (h.may y hy).2⟩
theorem scaleU_of {c v : Int} {l : List UseD} (h : Good l) (hi : isB c v = true) (u : Int) : ofU (scaleU c v l) u = scaleT c v (ofU l u) := by
  by_cases hu : u ∈ l.map (·.v)
  · obtain ⟨x, hx, rfl⟩ := List.mem_map.1 hu
    have hm : (⟨x.v, scaleT c v x.t⟩ : UseD) ∈ scaleU c v l := by rw [scaleU_eq h]; exact List.mem_map.2 ⟨x, hx, rfl⟩
    have := ofU_mem (scaleU_good h hi) hm
    rw [ofU_mem h hx]
    exact this
  · rw [ofU_none (xs := l) (fun x hx e => hu (List.mem_map.2 ⟨x, hx, e⟩)), ofU_none (xs := scaleU c v l) (fun x hx e => ?_)]
    · rfl
    · rw [scaleU_eq h] at hx
      obtain ⟨y, hy, rfl⟩ := List.mem_map.1 hx
      exact hu (List.mem_map.2 ⟨y, hy, e⟩)
def timesU (t : TermD) (l : List UseD) : List UseD := (leastT t).vars.foldl (fun o v => scaleU 0 v o) (scaleU (leastT t).c 0 l)
theorem isB_c {c : Int} (h1 : 1 ≤ c) (h2 : c ≤ 3) : isB c 0 = true := by unfold isB oneB; simp [h1, h2]
theorem isB_v {v : Int} (h1 : 0 ≤ v) (h2 : v < 1048576) : isB 0 v = true := by unfold isB; simp [h1, h2]
theorem least_may {t : TermD} (h : mayB t = true) : (1 ≤ (leastT t).c ∧ (leastT t).c ≤ 3) ∧ ∀ v ∈ (leastT t).vars, 0 ≤ v ∧ v < 1048576 := by
  unfold leastT
  cases hn : t.never
  · simp only [Bool.false_eq_true, if_false]
    exact ⟨may_c h hn, may_vars h⟩
  · simp
theorem fold_good : ∀ (vs : List Int) (o : List UseD), Good o → (∀ v ∈ vs, 0 ≤ v ∧ v < 1048576) → Good (vs.foldl (fun o v => scaleU 0 v o) o)
  | [], o, h, _ => h
  | v :: vs, o, h, hv => fold_good vs _ (scaleU_good h (isB_v (hv v (by simp)).1 (hv v (by simp)).2)) fun u hu => hv u (by simp [hu])
theorem times_good {t : TermD} {l : List UseD} (ht : mayB t = true) (h : Good l) : Good (timesU t l) := by
  have hl := least_may ht
  exact fold_good _ _ (scaleU_good h (isB_c hl.1.1 hl.1.2)) hl.2

end Go.Proofs.Ytimlbpjdgnapoaa
