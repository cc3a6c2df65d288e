/- Texts of this claim, laid one behind the other: PlU, UsesH, UsesI, UsesJ, UsesK. -/
import Derived.Test.YtimlbpjdgnapoaaM7
import Derived.Test.YtimlbpjdgnapoaaM5
import Derived.Shelf.SlicesE.Clone
import Derived.Test.YtimlbpjdgnapoaaM3
/- Plain laws of uses: what is joined, summed, scaled; when two are the same. No program. -/
namespace Go.Proofs.Ytimlbpjdgnapoaa
set_option linter.unusedVariables false
set_option linter.unusedSimpArgs false
open Go Go.RowKit

deriving instance DecidableEq for TermD
deriving instance DecidableEq for UseD

/-! what is joined, summed, scaled may be (TextI's lines) -/
theorem may_clean {c : Int} {l : List Int} (h1 : 1 ≤ c) (h2 : c ≤ 3) (h : ∀ v ∈ l, 0 ≤ v ∧ v < 1048576) : mayB (cleanT c l) = true := by
  have hmem : ∀ v ∈ (cleanT c l).vars, v ∈ l := by
    intro v hv
    unfold cleanT at hv
    simp only at hv
    split at hv
    · simp at hv
    · exact ((sset_rises l).2 v).1 hv
  refine (may_iff _).2 (.inr ⟨rfl, h1, h2, fun e => ?_, ?_, fun v hv => h v (hmem v hv)⟩)
  · unfold cleanT at e ⊢
    simp only at e ⊢
    rw [if_pos (.inl e)]
  · unfold cleanT
    simp only
    split
    · exact List.Pairwise.nil
    · exact (sset_rises l).1
theorem may_vars {t : TermD} (h : mayB t = true) : ∀ v ∈ t.vars, 0 ≤ v ∧ v < 1048576 := by
  intro v hv
  rcases (may_iff t).1 h with h | h
  · rw [h.2.2] at hv; simp at hv
  · exact h.2.2.2.2.2 v hv
theorem may_c {t : TermD} (h : mayB t = true) (hn : t.never = false) : 1 ≤ t.c ∧ t.c ≤ 3 := by
  rcases (may_iff t).1 h with h' | h'
  · rw [hn] at h'; simp at h'
  · exact ⟨h'.2.1, h'.2.2.1⟩
theorem may_join {a b : TermD} (ha : mayB a = true) (hb : mayB b = true) : mayB (joinT [a, b]) = true := by
  have va := may_vars ha
  have vb := may_vars hb
  cases hna : a.never
  · have ⟨c1, c2⟩ := may_c ha hna
    cases hnb : b.never
    · have ⟨d1, d2⟩ := may_c hb hnb
      have ej : joinT [a, b] = cleanT (max (max 1 a.c) b.c) (a.vars ++ b.vars) := by
        simp [joinT, someT, joinC0, joinCs, joinVs, hna, hnb]
      rw [ej]
      exact may_clean (by omega) (by omega) fun v hv => (List.mem_append.1 hv).elim (va v) (vb v)
    · have ej : joinT [a, b] = cleanT (max 2 a.c) a.vars := by
        simp [joinT, someT, joinC0, joinCs, joinVs, hna, hnb]
      rw [ej]
      exact may_clean (by omega) (by omega) va
  · cases hnb : b.never
    · have ⟨d1, d2⟩ := may_c hb hnb
      have ej : joinT [a, b] = cleanT (max 2 b.c) b.vars := by
        simp [joinT, someT, joinC0, joinCs, joinVs, hna, hnb]
      rw [ej]
      exact may_clean (by omega) (by omega) vb
    · have ej : joinT [a, b] = ⟨true, 0, []⟩ := by simp [joinT, someT, hna, hnb]
      rw [ej]; decide +kernel
theorem may_sum {a b : TermD} (ha : mayB a = true) (hb : mayB b = true) : mayB (sumT [a, b]) = true := by
  unfold sumT
  cases hna : a.never
  · cases hnb : b.never
    · simp only [someT, List.filter_cons, hna, hnb, Bool.not_false, if_true, List.filter_nil]; decide +kernel
    · simp only [someT, List.filter_cons, hna, hnb, Bool.not_false, if_true, List.filter_nil, Bool.not_true, Bool.false_eq_true, if_false]
      have ⟨c1, c2⟩ := may_c ha hna
      exact may_clean c1 c2 (may_vars ha)
  · cases hnb : b.never
    · simp only [someT, List.filter_cons, hna, hnb, Bool.not_false, if_true, List.filter_nil, Bool.not_true, Bool.false_eq_true, if_false]
      have ⟨c1, c2⟩ := may_c hb hnb
      exact may_clean c1 c2 (may_vars hb)
    · simp only [someT, List.filter_cons, hna, hnb, List.filter_nil, Bool.not_true, Bool.false_eq_true, if_false]; decide +kernel
theorem may_scale {c v : Int} {a : TermD} (hi : isB c v = true) (ha : mayB a = true) : mayB (scaleT c v a) = true := by
  unfold scaleT
  cases hna : a.never
  · have ⟨c1, c2⟩ := may_c ha hna
    unfold isB oneB at hi
    simp only [Bool.or_eq_true, Bool.and_eq_true, beq_iff_eq, decide_eq_true_eq] at hi
    simp only [Bool.false_eq_true, if_false]
    by_cases h0 : c = 0
    · rw [if_pos h0]
      refine may_clean c1 c2 fun x hx => ?_
      rcases List.mem_append.1 hx with h | h
      · exact may_vars ha x h
      · rw [List.mem_singleton] at h; subst h; omega
    · rw [if_neg h0]
      exact may_clean (by omega) (by omega) (may_vars ha)
  · simpa using ha

theorem snoc_ind {α : Type} {P : List α → Prop} (h0 : P []) (h1 : ∀ l a, P l → P (l ++ [a])) (l : List α) : P l := by
  rw [← List.reverse_reverse l]
  induction l.reverse with
  | nil => exact h0
  | cons a r ih => rw [List.reverse_cons]; exact h1 _ _ ih
theorem joinT_may : ∀ ts : List TermD, (∀ t ∈ ts, mayB t = true) → mayB (joinT ts) = true := by
  intro ts
  induction ts using snoc_ind with
  | h0 => intro _; decide +kernel
  | h1 ts t ih =>
    intro h
    have h1 := ih fun x hx => h x (by simp [hx])
    have ht := h t (by simp)
    by_cases h0 : ts = []
    · subst h0
      rw [List.nil_append, joinT_one ht]; exact ht
    · rw [← rJoin_snoc h0 (fun x hx => h x (by simp [hx])) ht, rJoin_two h1 ht]
      exact may_join h1 ht
theorem sumT_may : ∀ ts : List TermD, (∀ t ∈ ts, mayB t = true) → mayB (sumT ts) = true := by
  intro ts
  induction ts using snoc_ind with
  | h0 => intro _; decide +kernel
  | h1 ts t ih =>
    intro h
    have h1 := ih fun x hx => h x (by simp [hx])
    have ht := h t (by simp)
    rw [← rSum_snoc ht, rSum_two h1 ht]
    exact may_sum h1 ht
theorem joinT_some {ts : List TermD} {t : TermD} (h : t ∈ ts) (hn : t.never = false) : (joinT ts).never = false := by
  have : someT ts ≠ [] := List.ne_nil_of_mem (List.mem_filter.2 ⟨h, by simp [hn]⟩)
  unfold joinT
  rw [if_neg this]; rfl
theorem sumT_some {ts : List TermD} {t : TermD} (h : t ∈ ts) (hn : t.never = false) : (sumT ts).never = false := by
  have : someT ts ≠ [] := List.ne_nil_of_mem (List.mem_filter.2 ⟨h, by simp [hn]⟩)
  unfold sumT
  split
  · rename_i e; exact absurd e this
  · rfl
  · rfl
theorem someT_none {ts : List TermD} (h : ∀ t ∈ ts, t.never = true) : someT ts = [] := by
  unfold someT
  rw [List.filter_eq_nil_iff]
  intro t ht
  simp [h t ht]
theorem joinT_none {ts : List TermD} (h : ∀ t ∈ ts, t.never = true) : joinT ts = ⟨true, 0, []⟩ := by unfold joinT; rw [if_pos (someT_none h)]
theorem sumT_none {ts : List TermD} (h : ∀ t ∈ ts, t.never = true) : sumT ts = ⟨true, 0, []⟩ := by unfold sumT; rw [someT_none h]
theorem scaleT_never {c v : Int} {t : TermD} : (scaleT c v t).never = t.never := by
  unfold scaleT
  cases hn : t.never
  · simp only [Bool.false_eq_true, if_false]
    split <;> rfl
  · simp [hn]

/-! uses that may be -/
structure Good (l : List UseD) : Prop where
  rise : Rises (l.map (·.v))
  rng : ∀ x ∈ l, 0 ≤ x.v ∧ x.v < 1048576
  may : ∀ x ∈ l, x.t.never = false ∧ mayB x.t = true
theorem good_of {l : List UseD} (h : mayU l = true) : Good l :=
  ⟨(mayU_rises h).1, (mayU_rise h).rng, fun x hx => ((mayFrom_rise _ _ h).1 x hx).2.2.2⟩
theorem mayFrom_good : ∀ (l : List UseD) (p : Int), Rises (l.map (·.v)) → (∀ x ∈ l, p < x.v ∧ 0 ≤ x.v ∧ x.v < 1048576 ∧ x.t.never = false ∧ mayB x.t = true) → mayFrom p l = true
  | [], _, _, _ => rfl
  | x :: l, p, hr, h => by
    have hx := h x (by simp)
    unfold mayFrom mayS
    rw [mayFrom_good l x.v (List.Pairwise.of_cons hr) (fun y hy => ⟨List.rel_of_pairwise_cons hr (List.mem_map_of_mem hy), (h y (by simp [hy])).2⟩)]
    simp [hx]
theorem Good.mayU {l : List UseD} (h : Good l) : mayU l = true :=
  mayFrom_good l (-1) h.rise fun x hx => ⟨by have := h.rng x hx; omega, (h.rng x hx).1, (h.rng x hx).2, h.may x hx⟩
theorem mayU_iff {l : List UseD} : mayU l = true ↔ Good l := ⟨good_of, Good.mayU⟩

theorem rises_nodup {l : List Int} (h : Rises l) : l.Nodup := by
  unfold Rises at h
  exact h.imp fun h e => by omega
theorem ofU_mem {l : List UseD} (h : Good l) {x : UseD} (hx : x ∈ l) : ofU l x.v = x.t := by
  obtain ⟨j, hj, rfl⟩ := List.getElem_of_mem hx
  exact ofU_some (mayU_rise h.mayU) hj rfl
theorem ofU_in {l : List UseD} (h : Good l) (v : Int) : (ofU l v).never = false ↔ v ∈ l.map (·.v) := by
  constructor
  · intro hn
    rw [List.mem_map]
    refine Classical.byContradiction fun hno => ?_
    rw [ofU_none (fun x hx e => hno ⟨x, hx, e⟩)] at hn
    cases hn
  · intro hv
    obtain ⟨x, hx, rfl⟩ := List.mem_map.1 hv
    rw [ofU_mem h hx]
    exact (h.may x hx).1
theorem good_ext {a b : List UseD} (ha : Good a) (hb : Good b) (h : ∀ v, ofU a v = ofU b v) : a = b := by
  have e : a.map (·.v) = b.map (·.v) := rises_ext _ _ ha.rise hb.rise fun v => by rw [← ofU_in ha, ← ofU_in hb, h]
  have hl : a.length = b.length := by have := congrArg List.length e; simpa using this
  refine List.ext_getElem hl fun i h1 h2 => ?_
  have ev : a[i].v = b[i].v := by
    have : (a.map (·.v))[i]'(by simpa using h1) = (b.map (·.v))[i]'(by simpa using h2) := by simp only [e]
    rwa [List.getElem_map, List.getElem_map] at this
  have et : a[i].t = b[i].t := by
    rw [← ofU_mem ha (List.getElem_mem h1), ← ofU_mem hb (List.getElem_mem h2), ev]
    exact h _
  cases hA : a[i]; cases hB : b[i]
  rw [hA, hB] at ev et
  simp only at ev et
  rw [ev, et]

/-- a function of terms that may stand in uses.each -/
structure EachF (F : List TermD → TermD) : Prop where
  may : ∀ ts, (∀ t ∈ ts, mayB t = true) → mayB (F ts) = true
  some : ∀ ts (t : TermD), t ∈ ts → t.never = false → (F ts).never = false
  none : ∀ ts, (∀ t ∈ ts, t.never = true) → F ts = ⟨true, 0, []⟩
theorem eachJoin : EachF joinT := ⟨joinT_may, fun _ _ h hn => joinT_some h hn, fun _ h => joinT_none h⟩
theorem eachSum : EachF sumT := ⟨sumT_may, fun _ _ h hn => sumT_some h hn, fun _ h => sumT_none h⟩

theorem mem_varsOf_of {ls : List (List UseD)} (h : ∀ l ∈ ls, Good l) (v : Int) : v ∈ varsOf ls ↔ ∃ l ∈ ls, (ofU l v).never = false := by
  rw [varsOf_mem]
  constructor
  · rintro ⟨l, hl, x, hx, rfl⟩
    exact ⟨l, hl, (ofU_in (h l hl) _).2 (List.mem_map_of_mem hx)⟩
  · rintro ⟨l, hl, hn⟩
    obtain ⟨x, hx, e⟩ := List.mem_map.1 ((ofU_in (h l hl) _).1 hn)
    exact ⟨l, hl, x, hx, e⟩
theorem each_good {F : List TermD → TermD} (hF : EachF F) {ls : List (List UseD)} (h : ∀ l ∈ ls, Good l) : Good (eachU F ls) := by
  have hm : (eachU F ls).map (·.v) = sset (varsOf ls) := by
    unfold eachU
    rw [List.map_map]
    conv => rhs; rw [← List.map_id (sset (varsOf ls))]
    rfl
  refine ⟨by rw [hm]; exact (sset_rises _).1, fun x hx => ?_, fun x hx => ?_⟩
  · have : x.v ∈ (eachU F ls).map (·.v) := List.mem_map_of_mem hx
    rw [hm] at this
    obtain ⟨l, hl, y, hy, e⟩ := varsOf_mem.1 (((sset_rises _).2 _).1 this)
    rw [← e]
    exact (h l hl).rng y hy
  · unfold eachU at hx
    obtain ⟨v, hv, rfl⟩ := List.mem_map.1 hx
    obtain ⟨l, hl, hn⟩ := (mem_varsOf_of h v).1 (((sset_rises _).2 _).1 hv)
    refine ⟨hF.some _ (ofU l v) (List.mem_map.2 ⟨l, hl, rfl⟩) hn, hF.may _ fun t ht => ?_⟩
    obtain ⟨l', hl', rfl⟩ := List.mem_map.1 ht
    exact mayU_ofU (h l' hl').mayU v
theorem each_of {F : List TermD → TermD} (hF : EachF F) {ls : List (List UseD)} (h : ∀ l ∈ ls, Good l) (v : Int) : ofU (eachU F ls) v = F (ls.map fun l => ofU l v) := by
  by_cases hv : v ∈ varsOf ls
  · have hx : (⟨v, F (ls.map fun l => ofU l v)⟩ : UseD) ∈ eachU F ls := List.mem_map.2 ⟨v, ((sset_rises _).2 _).2 hv, rfl⟩
    exact ofU_mem (each_good hF h) hx
  · rw [ofU_none (fun x hx e => hv ?_)]
    · refine (hF.none _ fun t ht => ?_).symm
      obtain ⟨l, hl, rfl⟩ := List.mem_map.1 ht
      cases hn : (ofU l v).never
      · exact absurd ((mem_varsOf_of h v).2 ⟨l, hl, hn⟩) hv
      · rfl
    · unfold eachU at hx
      obtain ⟨u, hu, rfl⟩ := List.mem_map.1 hx
      rw [← e]
      exact ((sset_rises _).2 _).1 hu
theorem good_nil : Good [] := ⟨List.Pairwise.nil, fun x hx => by simp at hx, fun x hx => by simp at hx⟩

/-! scaled -/
def scF (c v : Int) (ts : List TermD) : TermD := scaleT c v (ts.headD ⟨true, 0, []⟩)
theorem scaleU_eq {c v : Int} {l : List UseD} (h : Good l) : scaleU c v l = l.map fun x => ⟨x.v, scaleT c v x.t⟩ := by
  unfold scaleU eachU
  have e : varsOf [l] = l.map (·.v) := by simp [varsOf]
  rw [e, sset_self h.rise, List.map_map]
  refine List.map_congr_left fun x hx => ?_
  show (⟨x.v, scaleT c v (ofU l x.v)⟩ : UseD) = _
  rw [ofU_mem h hx]
theorem scaleU_good {c v : Int} {l : List UseD} (h : Good l) (hi : isB c v = true) : Good (scaleU c v l) := by
  rw [scaleU_eq h]
  refine ⟨?_, fun x hx => ?_, fun x hx => ?_⟩
  · rw [List.map_map]; exact h.rise
  · obtain ⟨y, hy, rfl⟩ := List.mem_map.1 hx
    exact h.rng y hy
  · obtain ⟨y, hy, rfl⟩ := List.mem_map.1 hx
    exact ⟨by rw [scaleT_never]; exact (h.may y hy).1, may_scale hi (h.may y hy).2⟩
theorem scaleU_of {c v : Int} {l : List UseD} (h : Good l) (hi : isB c v = true) (u : Int) : ofU (scaleU c v l) u = scaleT c v (ofU l u) := by
  by_cases hu : u ∈ l.map (·.v)
  · obtain ⟨x, hx, rfl⟩ := List.mem_map.1 hu
    have hm : (⟨x.v, scaleT c v x.t⟩ : UseD) ∈ scaleU c v l := by rw [scaleU_eq h]; exact List.mem_map.2 ⟨x, hx, rfl⟩
    have := ofU_mem (scaleU_good h hi) hm
    rw [ofU_mem h hx]
    exact this
  · rw [ofU_none (xs := l) (fun x hx e => hu (List.mem_map.2 ⟨x, hx, e⟩)), ofU_none (xs := scaleU c v l) (fun x hx e => ?_)]
    · rfl
    · rw [scaleU_eq h] at hx
      obtain ⟨y, hy, rfl⟩ := List.mem_map.1 hx
      exact hu (List.mem_map.2 ⟨y, hy, e⟩)
def timesU (t : TermD) (l : List UseD) : List UseD := (leastT t).vars.foldl (fun o v => scaleU 0 v o) (scaleU (leastT t).c 0 l)
theorem isB_c {c : Int} (h1 : 1 ≤ c) (h2 : c ≤ 3) : isB c 0 = true := by unfold isB oneB; simp [h1, h2]
theorem isB_v {v : Int} (h1 : 0 ≤ v) (h2 : v < 1048576) : isB 0 v = true := by unfold isB; simp [h1, h2]
theorem least_may {t : TermD} (h : mayB t = true) : (1 ≤ (leastT t).c ∧ (leastT t).c ≤ 3) ∧ ∀ v ∈ (leastT t).vars, 0 ≤ v ∧ v < 1048576 := by
  unfold leastT
  cases hn : t.never
  · simp only [Bool.false_eq_true, if_false]
    exact ⟨may_c h hn, may_vars h⟩
  · simp
theorem fold_good : ∀ (vs : List Int) (o : List UseD), Good o → (∀ v ∈ vs, 0 ≤ v ∧ v < 1048576) → Good (vs.foldl (fun o v => scaleU 0 v o) o)
  | [], o, h, _ => h
  | v :: vs, o, h, hv => fold_good vs _ (scaleU_good h (isB_v (hv v (by simp)).1 (hv v (by simp)).2)) fun u hu => hv u (by simp [hu])
theorem times_good {t : TermD} {l : List UseD} (ht : mayB t = true) (h : Good l) : Good (timesU t l) := by
  have hl := least_may ht
  exact fold_good _ _ (scaleU_good h (isB_c hl.1.1 hl.1.2)) hl.2

end Go.Proofs.Ytimlbpjdgnapoaa

/- slices.Clone, IndexFunc and DeleteFunc at uses (lines of TermD, TermE, TermF turned to uses); uses.Take. -/
namespace Go.Proofs.Ytimlbpjdgnapoaa
set_option linter.unusedVariables false
set_option linter.unusedSimpArgs false
open Go.RowKit

def cloneRenU : Go.Shelf.Ren := ⟨fun | 41 => 52 | n => n, fun | 22 => 25 | 23 => 41 | 4 => 4 | n => n, fun | n => n⟩
theorem cloneLaysU : Go.Proofs.SlLaysE0.n41 Try.prog cloneRenU := {
  mixed := by kernel_rfl
  f41 := ⟨Try.f52.name, by decide, Try.func52.trans (congrArg some (by kernel_rfl))⟩
  t4 := Try.underlying4
  a4 := Try.isAgg4
  z4 := Try.sizeOf4
  v4 := Try.zeroValue4
  t22 := Try.underlying25
  a22 := Try.isAgg25
  z22 := Try.sizeOf25
  v22 := Try.zeroValue25 }

/-- four cells of a row read as a use, its variables below block B -/
def C4B (w : World) (B : Nat) (cs : List Value) (x : Nat) (t : UseD) : Prop :=
  ∃ A n c, cs[x * 4]? = some (.int .i64 t.v) ∧ cs[x * 4 + 1]? = some (.bool t.t.never) ∧ cs[x * 4 + 2]? = some (.int .u8 t.t.c) ∧ cs[x * 4 + 3]? = some (.slice A n c) ∧ RdI .i64 w B A n c t.t.vars
theorem C4B.keep {w w' : World} {B : Nat} {cs : List Value} {x : Nat} {t : UseD} (h : C4B w B cs x t) (hk : ∀ p : Addr, p.block < B → w'.cell? p = w.cell? p) : C4B w' B cs x t := by
  obtain ⟨A, n, c, e0, e1, e2, e3, hr⟩ := h
  exact ⟨A, n, c, e0, e1, e2, e3, hr.keep hk⟩
theorem C4B.more {w : World} {B B' : Nat} {cs : List Value} {x : Nat} {t : UseD} (h : C4B w B cs x t) (hB : B ≤ B') : C4B w B' cs x t := by
  obtain ⟨A, n, c, e0, e1, e2, e3, hr⟩ := h
  exact ⟨A, n, c, e0, e1, e2, e3, hr.more hB⟩
theorem C4B.cut {w : World} {B : Nat} {cs : List Value} {x m : Nat} {t : UseD} (h : C4B w B cs x t) (hx : x < m) : C4B w B (cs.take (m * 4)) x t := by
  obtain ⟨A, n, c, e0, e1, e2, e3, hr⟩ := h
  exact ⟨A, n, c, by rw [List.getElem?_take, if_pos (by omega)]; exact e0, by rw [List.getElem?_take, if_pos (by omega)]; exact e1, by rw [List.getElem?_take, if_pos (by omega)]; exact e2, by rw [List.getElem?_take, if_pos (by omega)]; exact e3, hr⟩
theorem C4B.congr {w : World} {B : Nat} {cs cs' : List Value} {x : Nat} {t : UseD} (h : C4B w B cs x t) (he : ∀ k, x * 4 ≤ k → k < x * 4 + 4 → cs'[k]? = cs[k]?) : C4B w B cs' x t := by
  obtain ⟨A, n, c, e0, e1, e2, e3, hr⟩ := h
  exact ⟨A, n, c, by rw [he _ (by omega) (by omega)]; exact e0, by rw [he _ (by omega) (by omega)]; exact e1, by rw [he _ (by omega) (by omega)]; exact e2, by rw [he _ (by omega) (by omega)]; exact e3, hr⟩
theorem C4B.cells {w : World} {B base : Nat} {e : TypeId} {g n c : Nat} {cs : List Value} {x : Nat} {t : UseD} (h : C4B w B cs x t) (hown : w.ownsRow base e 4 (.slice (some ⟨g, 0, none⟩) n c) n cs) (hx : x < n) :
    ∃ A m d, w.cell? ⟨g, x * 4, none⟩ = some (.int .i64 t.v) ∧ w.cell? ⟨g, x * 4 + 1, none⟩ = some (.bool t.t.never) ∧ w.cell? ⟨g, x * 4 + 2, none⟩ = some (.int .u8 t.t.c) ∧ w.cell? ⟨g, x * 4 + 3, none⟩ = some (.slice A m d) ∧ RdI .i64 w B A m d t.t.vars := by
  obtain ⟨A, m, d, e0, e1, e2, e3, hr⟩ := h
  exact ⟨A, m, d, by rw [hown.cellAt _ (by omega)]; exact e0, by rw [hown.cellAt _ (by omega)]; exact e1, by rw [hown.cellAt _ (by omega)]; exact e2, by rw [hown.cellAt _ (by omega)]; exact e3, hr⟩

theorem UsesV.cells {w : World} {B : Nat} {b off : Nat} : ∀ (m : Nat) (ts : List UseD), m ≤ ts.length → (∀ i (h : i < ts.length), UseAt w B b (off + i * 4) ts[i]) →
    ∃ cs : List Value, cs.length = m * 4 ∧ (∀ j u, cs[j]? = some u → w.cell? ⟨b, off + j, none⟩ = some u) ∧ (∀ u ∈ cs, u.oneCell' = true) ∧ ∀ i (h : i < ts.length), i < m → C4B w B cs i ts[i]
  | 0, ts, _, _ => ⟨[], rfl, fun j u h => by simp at h, fun u h => by simp at h, fun i _ h => absurd h (by omega)⟩
  | m + 1, ts, hm, hat => by
    obtain ⟨cs, hl, hc, h1, h3⟩ := UsesV.cells m ts (by omega) hat
    obtain ⟨e0, A, n, c, e1, e2, e3, hr⟩ := hat m (by omega)
    refine ⟨cs ++ [.int .i64 ts[m].v, .bool ts[m].t.never, .int .u8 ts[m].t.c, .slice A n c], by simp [hl]; omega, fun j u hu => ?_, fun u hu => ?_, fun i hi him => ?_⟩
    · rw [List.getElem?_append] at hu
      split at hu
      · exact hc j u hu
      · rename_i hj
        have hj3 : j - cs.length < 4 := by
          have := (List.getElem?_eq_some_iff.1 hu).1
          simpa using this
        have : j = m * 4 ∨ j = m * 4 + 1 ∨ j = m * 4 + 2 ∨ j = m * 4 + 3 := by omega
        rcases this with rfl | rfl | rfl | rfl
        · rw [hl, Nat.sub_self] at hu
          simp at hu
          rw [← hu]; exact e0
        · rw [hl, show m * 4 + 1 - m * 4 = 1 from by omega] at hu
          simp at hu
          rw [← hu, show off + (m * 4 + 1) = off + m * 4 + 1 from by omega]; exact e1
        · rw [hl, show m * 4 + 2 - m * 4 = 2 from by omega] at hu
          simp at hu
          rw [← hu, show off + (m * 4 + 2) = off + m * 4 + 1 + 1 from by omega]; exact e2
        · rw [hl, show m * 4 + 3 - m * 4 = 3 from by omega] at hu
          simp at hu
          rw [← hu, show off + (m * 4 + 3) = off + m * 4 + 1 + 2 from by omega]; exact e3
    · simp only [List.mem_append, List.mem_cons, List.not_mem_nil, or_false] at hu
      rcases hu with hu | rfl | rfl | rfl | rfl
      · exact h1 u hu
      · rfl
      · rfl
      · rfl
      · rfl
    · rcases Nat.lt_or_ge i m with h | h
      · obtain ⟨A', n', c', f0, f1, f2, f3, hr'⟩ := h3 i hi h
        exact ⟨A', n', c', by rw [List.getElem?_append_left (by omega)]; exact f0, by rw [List.getElem?_append_left (by omega)]; exact f1, by rw [List.getElem?_append_left (by omega)]; exact f2, by rw [List.getElem?_append_left (by omega)]; exact f3, hr'⟩
      · have : i = m := by omega
        subst this
        refine ⟨A, n, c, ?_, ?_, ?_, ?_, hr⟩
        · rw [List.getElem?_append_right (by omega), hl, Nat.sub_self]; rfl
        · rw [List.getElem?_append_right (by omega), hl, show i * 4 + 1 - i * 4 = 1 from by omega]; rfl
        · rw [List.getElem?_append_right (by omega), hl, show i * 4 + 2 - i * 4 = 2 from by omega]; rfl
        · rw [List.getElem?_append_right (by omega), hl, show i * 4 + 3 - i * 4 = 3 from by omega]; rfl

/-- a row of uses of the call's own, their variables below B -/
def OwnB (w : World) (base B : Nat) (v : Value) (n : Nat) (ts : List UseD) : Prop :=
  ts.length = n ∧ ∃ cs, w.ownsRow base 41 4 v n cs ∧ ∀ i (h : i < ts.length), C4B w B cs i ts[i]
def CloneU (ts : List UseD) (n : Nat) (w : World) (e : Ending) (w' : World) : Prop :=
  ∃ v, e = .returned v ∧ OwnB w' w.heap.size w.heap.size v n ts ∧ (v = .slice none 0 0 ∨ ∃ g c, v = .slice (some ⟨g, 0, none⟩) n c) ∧ Below w.heap.size w w'

set_option maxHeartbeats 400000 in
theorem cloneU_zero (a : Addr) (c : Nat) (w : World) :
    Calls Try.prog 52 #[.slice (some a) 0 c] w (CloneU [] 0 w) := by
  obtain ⟨i0, hi0, hz0, hz1, hz2⟩ := info_parts usageInfo
  have hq := fun w a n c n' c' => Lib.run_eql_slice_nil (P := Try.prog) w 25 41 a n c n' c' Try.underlying25
  go_enter Try.func52, Try.ntmps52
  go_wp2_with (at_builtin; refine wpList_append_own _ rfl _ _ 25 rfl w.heap.size 41 i0 _ 4 40 Try.underlying25 hi0 hz0 hz1 hz2 rfl (by omega) _ 0 [] rfl (World.ownsRow_lit w #[] 0 (Nat.le_refl _) (Nat.zero_le _) rfl) a 0 c [] rfl rfl (fun j u h => by simp at h) (fun u h => by simp at h) (Nat.zero_le _) (by omega) (by simp) ?_; intro v1 w1 hown1 hg1 hnil)
  go_ret
  refine ⟨v1, rfl, ⟨rfl, [], hown1, fun i h => absurd h (by simp)⟩, ?_, ((Below.refl _ _).alloc (Nat.le_refl _) _).grown hg1 (by simp) (fun k hk => by have hk' : some w.heap.size = some k := hk; injection hk' with h; omega)⟩
  rcases hown1.2 with ⟨e0, _⟩ | ⟨g, cap, cur, rfl, _⟩
  · exact .inl e0
  · exact .inr ⟨g, cap, rfl⟩

theorem cloneU_any (A : Option Addr) (n c : Nat) (ts : List UseD) (w : World) (hr : UsesV w w.heap.size A n c ts) (hbig : n * 40 ≤ 140737488355328) :
    Calls Try.prog 52 #[.slice A n c] w (CloneU ts n w) := by
  obtain ⟨hlen, hnc, hcm, hat⟩ := hr
  rcases A with _ | ⟨b, off, sp⟩
  · have hn : n = 0 := by
      rcases Nat.eq_zero_or_pos n with h | h
      · exact h
      · obtain ⟨_, _, e, _⟩ := hat h
        cases e
    subst hn
    have hts : ts = [] := List.eq_nil_of_length_eq_zero hlen
    subst hts
    refine (AnyE.slices_Clone_nil cloneLaysU 0 c w).mono ?_
    rintro e w1 ⟨rfl, rfl⟩
    exact ⟨_, rfl, ⟨rfl, [], World.ownsRow_nil _ _ _ _, fun i h => absurd h (by simp)⟩, .inl rfl, Below.refl _ _⟩
  · obtain ⟨i0, hi0, hz0, hz1, hz2⟩ := info_parts usageInfo
    rcases Nat.eq_zero_or_pos n with h0 | h0
    · subst h0
      have hts : ts = [] := List.eq_nil_of_length_eq_zero hlen
      subst hts
      exact cloneU_zero _ c w
    · obtain ⟨b', off', e, hb, hcell⟩ := hat h0
      injection e with e
      injection e with e1 e2 e3
      subst e1; subst e2; subst e3
      obtain ⟨cs, hl, hc, h1, h3⟩ := UsesV.cells n ts (by omega) hcell
      refine (AnyE.slices_Clone cloneLaysU i0 _ 4 40 hi0 hz0 hz1 hz2 rfl (by omega) Try.sizeOf41 b off n c cs w hl (Nat.le_trans hnc hcm) hbig hc h1).mono ?_
      rintro e w1 ⟨v', rfl, hown, hne, hb1⟩
      refine ⟨v', rfl, ⟨hlen, cs, hown, fun i hi => (h3 i hi (by omega)).keep fun q hq => hb1.cell hq⟩, .inr ?_, hb1⟩
      rcases hown.2 with ⟨e0, _⟩ | ⟨g, cap, cur, rfl, _⟩
      · exact absurd e0 hne
      · exact ⟨g, cap, rfl⟩

theorem OwnB.form {w : World} {base B : Nat} {g : Nat} {n m c : Nat} {ts : List UseD} (h : OwnB w base B (.slice (some ⟨g, 0, none⟩) m c) n ts) : m = n ∧ base ≤ g ∧ g < w.heap.size ∧ n ≤ c ∧ c ≤ maxLen := by
  obtain ⟨_, cs, hown, _⟩ := h
  rcases hown.2 with ⟨e0, _⟩ | ⟨g', cap, cur, e0, hb, hg, hn, hm, _⟩
  · cases e0
  · injection e0 with e1 e2 e3
    injection e1 with e1
    injection e1 with e1
    subst e1; subst e2; subst e3
    exact ⟨rfl, hb, (Array.getElem?_eq_some_iff.1 hg).1, hn, hm⟩
theorem OwnB.uses {w : World} {base B : Nat} {A : Option Addr} {n m c : Nat} {ts : List UseD} (h : OwnB w base B (.slice A m c) n ts) (hB : B ≤ w.heap.size) : m = n ∧ UsesV w w.heap.size A n c ts := by
  obtain ⟨hl, cs, hown, h3⟩ := h
  rcases hown.2 with ⟨e0, hn⟩ | ⟨g, cap, cur, e0, hb, hg, hn, hm, hs, ht⟩
  · injection e0 with e1 e2 e3
    subst e1; subst e2; subst e3
    subst hn
    exact ⟨rfl, hl, Nat.le_refl _, Nat.zero_le _, fun h => absurd h (by omega)⟩
  · injection e0 with e1 e2 e3
    subst e1; subst e2; subst e3
    refine ⟨rfl, hl, hn, hm, fun _ => ⟨g, 0, rfl, (Array.getElem?_eq_some_iff.1 hg).1, fun i hi => ?_⟩⟩
    obtain ⟨A', n', c', f0, f1, f2, f3, hr⟩ := h3 i hi
    refine ⟨?_, A', n', c', ?_, ?_, ?_, hr.more hB⟩
    · rw [show 0 + i * 4 = i * 4 from by omega, hown.cellAt _ (by omega)]; exact f0
    · rw [show 0 + i * 4 + 1 = i * 4 + 1 from by omega, hown.cellAt _ (by omega)]; exact f1
    · rw [show 0 + i * 4 + 1 + 1 = i * 4 + 2 from by omega, hown.cellAt _ (by omega)]; exact f2
    · rw [show 0 + i * 4 + 1 + 2 = i * 4 + 3 from by omega, hown.cellAt _ (by omega)]; exact f3

/-- what DeleteFunc returns -/
def DelU (ts : List UseD) (base B : Nat) (w : World) (e : Ending) (w' : World) : Prop :=
  ∃ v m, e = .returned v ∧ ((v = .slice none 0 0 ∧ m = 0) ∨ ∃ g c, v = .slice (some ⟨g, 0, none⟩) m c) ∧ OwnB w' base B v m ts ∧ Below base w w'
theorem filter_take_succU (p : UseD → Bool) (ts : List UseD) (j : Nat) (hj : j < ts.length) : (ts.take (j + 1)).filter p = (ts.take j).filter p ++ (if p ts[j] then [ts[j]] else []) := by
  rw [List.take_succ_eq_append_getElem hj, List.filter_append]
  congr 1
  by_cases h : p ts[j] <;> simp [h]
def idxU (p : UseD → Bool) (ts : List UseD) : Int := match ts.findIdx? p with
  | some i => (i : Int)
  | none => -1
theorem idxU_none {p : UseD → Bool} {ts : List UseD} (h : ∀ j (h : j < ts.length), p ts[j] = false) : idxU p ts = -1 := by
  have : ts.findIdx? p = none := by
    rw [List.findIdx?_eq_none_iff]
    intro x hx
    obtain ⟨j, hj, rfl⟩ := List.getElem_of_mem hx
    exact h j hj
  unfold idxU
  rw [this]
theorem idxU_some {p : UseD → Bool} {ts : List UseD} {k : Nat} (hk : k < ts.length) (h : ∀ j (h : j < ts.length), j < k → p ts[j] = false) (h1 : p ts[k] = true) : idxU p ts = k := by
  have : ts.findIdx? p = some k := by
    rw [List.findIdx?_eq_some_iff_getElem]
    exact ⟨hk, h1, fun j hj => by rw [h j (by omega) hj]; simp⟩
  unfold idxU
  rw [this]

theorem enters_take1 : Enters 53 := fun args w => by kernel_rfl
theorem take1_any (v : Int) (pb : Nat) (x : UseD) (A : Option Addr) (n c : Nat) (w : World) (hp : w.cell? ⟨pb, 0, none⟩ = some (.int .i64 v)) :
    Calls Try.prog 53 #[.agg #[.int .i64 x.v, .bool x.t.never, .int .u8 x.t.c, .slice A n c], .pointer (some ⟨pb, 0, none⟩)] w fun e w' => e = .returned (.bool (x.v == v)) ∧ Below w.heap.size w w' := by
  have hX := blk_new w #[.int .i64 x.v, .bool x.t.never, .int .u8 x.t.c, .slice A n c] 41
  have hb := below_box (w := w) (Obj.cells #[.int .i64 x.v, .bool x.t.never, .int .u8 x.t.c, .slice A n c] 41)
  have x0 : (w.alloc (Obj.cells #[.int .i64 x.v, .bool x.t.never, .int .u8 x.t.c, .slice A n c] 41)).cell? ⟨w.heap.size, 0, none⟩ = some (.int .i64 x.v) := hX.cell 0
  have x1 : (w.alloc (Obj.cells #[.int .i64 x.v, .bool x.t.never, .int .u8 x.t.c, .slice A n c] 41)).cell? ⟨pb, 0, none⟩ = some (.int .i64 v) := (hb.cell (p := ⟨pb, 0, none⟩) (block_lt_of_cell hp)).trans hp
  obtain ⟨d, hd⟩ : ∃ d, (x.v == v) = d := ⟨_, rfl⟩
  rw [hd]
  go_enter Try.func53, Try.ntmps53
  go_wp2_with fail
  try rw [hd]
  go_ret
  exact ⟨rfl, hb⟩

set_option maxHeartbeats 1000000 in
theorem indexV_any (v : Int) (pb : Nat) (A : Option Addr) (n c : Nat) (ts : List UseD) (w : World) (hr : UsesV w w.heap.size A n c ts) (hp : w.cell? ⟨pb, 0, none⟩ = some (.int .i64 v)) :
    Calls Try.prog 77 #[.slice A n c, .func (.func 53) #[] #[.pointer (some ⟨pb, 0, none⟩)]] w fun e w' => e = .returned (.int .i64 (idxU (fun x => x.v == v) ts)) ∧ Below w.heap.size w w' := by
  obtain ⟨hlen, hnc, hcm, hat⟩ := hr
  have Hlen := Lib.hid hlen
  have Hp := Lib.hid hp
  have Hat := Lib.hid hat
  clear hlen hp hat
  unfold maxLen at hcm
  go_enter Try.func77, Try.ntmps77
  go_wp2_with fail
  go_loopg [5, 8] n (fun g _ i wr => ∃ k : Nat, k ≤ n ∧ g = n - k ∧ i = .int .i64 k ∧ (∀ j (h : j < ts.length), j < k → (ts[j].v == v) = false) ∧ Below w.heap.size w wr)
  case atStart => exact ⟨0, Nat.zero_le _, rfl, rfl, fun j _ h => absurd h (by omega), Below.refl _ _⟩
  case round =>
    obtain ⟨k, hk, rfl, rfl, hno, hbel⟩ := hrel
    have Hno := Lib.hid hno
    clear hno
    by_cases hlt : k < n
    · obtain ⟨b, off, rfl, hb, hcell⟩ := Hat.out (by omega)
      have hk' : k < ts.length := by rw [Hlen.out]; exact hlt
      have h1 := (hcell k hk').keep hb (fun q hq => hbel.cell hq)
      obtain ⟨ev, A', n', c', e0, e1, e2, hr'⟩ := h1
      have hpw : Hid (wr.cell? ⟨pb, 0, none⟩ = some (.int .i64 v)) := Lib.hid ((hbel.cell (p := ⟨pb, 0, none⟩) (block_lt_of_cell Hp.out)).trans Hp.out)
      have Hr := Lib.hid hr'
      clear hr' hcell
      cases hpk : (ts[k].v == v)
      · have Hpk := Lib.hid hpk
        clear hpk
        go_wp2_with fail
        refine (take1_any v pb ts[k] A' n' c' wr hpw.out).mono ?_; rintro e w1 ⟨rfl, hb1⟩
        rw [Hpk.out]
        go_wp2_with fail
        go_roundg (n - (k + 1))
        case measure => omega
        case rel =>
          refine ⟨k + 1, by omega, rfl, by go_num, fun j hj hjk => ?_, stepB hbel hb1⟩
          rcases Nat.lt_or_ge j k with h | h
          · exact Hno.out j hj h
          · have : j = k := by omega
            subst this
            exact Hpk.out
      · have Hpk := Lib.hid hpk
        clear hpk
        have HF : Hid ((k : Int) = idxU (fun x => x.v == v) ts) := (idxU_some hk' Hno.out Hpk.out).symm
        go_wp2_with fail
        refine (take1_any v pb ts[k] A' n' c' wr hpw.out).mono ?_; rintro e w1 ⟨rfl, hb1⟩
        rw [Hpk.out]
        go_wp2_with fail
        go_ret
        exact ⟨ret_int HF.out, stepB hbel hb1⟩
    · have HF : Hid (-1 = idxU (fun x => x.v == v) ts) := (idxU_none (fun j hj => Hno.out j hj (by have := Hlen.out; omega))).symm
      go_wp2_with fail
      go_ret
      exact ⟨ret_int HF.out, hbel⟩

set_option maxHeartbeats 1000000 in
theorem deleteU_any (vv : Int) (pb : Nat) (base B n : Nat) (v : Value) (ts : List UseD) (w : World) (hown : OwnB w base B v n ts) (hB : B ≤ base) (hbase : base ≤ w.heap.size)
    (hp : w.cell? ⟨pb, 0, none⟩ = some (.int .i64 vv)) (hpb : pb < base) (hform : v = .slice none 0 0 ∨ ∃ g c, v = .slice (some ⟨g, 0, none⟩) n c) :
    Calls Try.prog 51 #[v, .func (.func 53) #[] #[.pointer (some ⟨pb, 0, none⟩)]] w (DelU (ts.filter fun t => !(t.v == vv)) base B w) := by
  obtain ⟨p, hpd⟩ : ∃ p : UseD → Bool, p = fun t => t.v == vv := ⟨_, rfl⟩
  have hpx : ∀ t : UseD, (t.v == vv) = p t := fun t => by rw [hpd]
  simp only [hpx]
  have Hpx := Lib.hid hpx
  have Hpd := Lib.hid hpd
  clear hpx hpd
  have Hown := Lib.hid hown
  have hlen := hown.1
  have Hlen := Lib.hid hlen
  have Hp := Lib.hid hp
  clear hlen hp
  -- is there one to be deleted?
  cases hfi : ts.findIdx? p with
  | none =>
    have hnone : ∀ t ∈ ts, p t = false := by
      intro t ht
      rw [List.findIdx?_eq_none_iff] at hfi
      exact hfi t ht
    have hfil : (ts.filter fun t => !p t) = ts := by
      rw [List.filter_eq_self]
      intro t ht
      rw [hnone t ht]; rfl
    have hidx : idxU p ts = -1 := by unfold idxU; rw [hfi]
    rw [hfil]
    have Hidx := Lib.hid hidx
    clear hfil hidx hnone hfi
    rcases hform with rfl | ⟨g, c, rfl⟩
    · have ht := (hown.uses (A := none) (m := 0) (c := 0) (Nat.le_trans hB hbase)).2
      have hn := (hown.uses (A := none) (m := 0) (c := 0) (Nat.le_trans hB hbase)).1
      subst hn
      clear hown
      go_enter Try.func51, Try.ntmps51
      go_wp2_with fail
      refine (indexV_any vv pb _ _ _ ts _ ht Hp.out).mono ?_; rintro e w1 ⟨rfl, hb1⟩
      rw [← Hpd.out, Hidx.out]
      go_wp2_with fail
      go_ret
      exact ⟨_, 0, rfl, .inl ⟨rfl, rfl⟩, ⟨Hlen.out, [], World.ownsRow_nil _ _ _ _, fun i hi => absurd hi (by have := Hlen.out; omega)⟩, hb1.mono hbase⟩
    · have ht := (hown.uses (Nat.le_trans hB hbase)).2
      clear hown
      go_enter Try.func51, Try.ntmps51
      go_wp2_with fail
      refine (indexV_any vv pb _ _ _ ts _ ht Hp.out).mono ?_; rintro e w1 ⟨rfl, hb1⟩
      rw [← Hpd.out, Hidx.out]
      go_wp2_with fail
      go_ret
      obtain ⟨_, cs, ho, h3⟩ := Hown.out
      exact ⟨_, n, rfl, .inr ⟨g, c, rfl⟩, ⟨Hlen.out, cs, ho.kept (below_grown hb1) (by simp [Value.ownBlock]), fun i hi => (h3 i hi).keep fun q hq => hb1.cell (by omega)⟩, hb1.mono hbase⟩
  | some i0 =>
    have hidx : idxU p ts = (i0 : Int) := by unfold idxU; rw [hfi]
    rw [List.findIdx?_eq_some_iff_getElem] at hfi
    obtain ⟨hi0, hpi, hbef⟩ := hfi
    have hin : i0 < n := by rw [← Hlen.out]; exact hi0
    obtain ⟨g, c, rfl⟩ : ∃ g c, v = .slice (some ⟨g, 0, none⟩) n c := by
      rcases hform with rfl | h
      · have := (hown.uses (A := none) (m := 0) (c := 0) (Nat.le_trans hB hbase)).1
        omega
      · exact h
    clear hform
    obtain ⟨_, hbg, hgl, hnc, hcm⟩ := hown.form
    unfold maxLen at hcm
    have ht := (hown.uses (Nat.le_trans hB hbase)).2
    have hk0 : ((ts.take i0).filter fun t => !p t) = ts.take i0 := by
      rw [List.filter_eq_self]
      intro t ht
      obtain ⟨j, hj, rfl⟩ := List.getElem_of_mem ht
      rw [List.getElem_take]
      have := hbef j (by rw [List.length_take] at hj; omega)
      simpa using this
    have hk1 : ((ts.take (i0 + 1)).filter fun t => !p t) = ts.take i0 := by
      rw [filter_take_succU _ _ _ hi0, hk0, hpi]
      simp
    have Hk1 := Lib.hid hk1
    have Hidx := Lib.hid hidx
    have hst := hown.2
    have Hst := Lib.hid hst
    clear hk0 hk1 hidx hbef hpi hown hst
    have hf := enters_take1
    unfold Enters at hf
    go_enter Try.func51, Try.ntmps51
    go_wp2_with fail
    refine (indexV_any vv pb _ _ _ ts _ ht Hp.out).mono ?_; rintro e w1 ⟨rfl, hb1⟩
    rw [← Hpd.out, Hidx.out]
    have hne1 : ((i0 : Int) == -1) = false := beq_eq_false_iff_ne.2 (by omega)
    go_wp2_with fail
    obtain ⟨cs0, ho0, h30⟩ := Hst.out
    have ho1 := ho0.kept (below_grown hb1) (by simp [Value.ownBlock])
    have h31 : ∀ i (h : i < ts.length), C4B w1 B cs0 i ts[i] := fun i hi => (h30 i hi).keep fun q hq => hb1.cell (by omega)
    clear ho0 h30 Hst Hown ht
    go_loopg [5, 6] (n - (i0 + 1)) (fun gg a b wr => ∃ (i j : Nat) (cs : List Value), j ≤ n ∧ i < j ∧ gg = n - j ∧ a = .int .i64 i ∧ b = .int .i64 j ∧ i = ((ts.take j).filter fun t => !p t).length ∧
      wr.ownsRow base 41 4 (.slice (some ⟨g, 0, none⟩) n c) n cs ∧ (∀ x (h : x < ((ts.take j).filter fun t => !p t).length), C4B wr B cs x ((ts.take j).filter fun t => !p t)[x]) ∧ (∀ y (h : y < ts.length), j ≤ y → C4B wr B cs y ts[y]) ∧ Below base w wr ∧ w.heap.size ≤ wr.heap.size)
    case atStart =>
      refine ⟨i0, i0 + 1, cs0, by omega, by omega, rfl, rfl, by go_num, ?_, ho1, ?_, fun y hy _ => h31 y hy, hb1.mono hbase, hb1.size⟩
      · rw [Hk1.out, List.length_take]; omega
      · rw [Hk1.out]
        intro x hx
        have hx' : x < ts.length := by rw [List.length_take] at hx; omega
        rw [List.getElem_take]
        exact h31 x hx'
    case round =>
      obtain ⟨i, j, cs, hj, hij, rfl, rfl, rfl, hi, ho, hpre, hsuf, hbel, hsz⟩ := hrel
      have Ho := Lib.hid ho
      have Hpre := Lib.hid hpre
      have Hsuf := Lib.hid hsuf
      have Hi := Lib.hid hi
      clear hpre hsuf hi ho ho1 h31
      by_cases hlt : j < n
      · have hj' : j < ts.length := by rw [Hlen.out]; exact hlt
        obtain ⟨A', m', d', c0, c1, c2, c3, hr'⟩ := (Hsuf.out j hj' (Nat.le_refl _)).cells Ho.out hlt
        have Hr := Lib.hid hr'
        clear hr'
        go_wp2_with fail
        have hra := Hr.out.below ((Below.refl B wr).alloc (Nat.le_trans hB (Nat.le_trans hbase hsz)) (Obj.cells #[.int .i64 ts[j].v, .bool ts[j].t.never, .int .u8 ts[j].t.c, .slice A' m' d'] 41))
        refine (take1_any vv pb ts[j] A' m' d' _ ((World.cell?_alloc_lt wr _ _ (by have := hbel.size; have := block_lt_of_cell Hp.out; show pb < wr.heap.size; omega)).trans ((hbel.cell (p := ⟨pb, 0, none⟩) hpb).trans Hp.out))).mono ?_; rintro e w2 ⟨rfl, hb2⟩
        rw [Hpx.out]
        have hb2' := hb2
        simp only [World.size_alloc] at hb2'
        have hvb : Blk w2 wr.heap.size 41 #[.int .i64 ts[j].v, .bool ts[j].t.never, .int .u8 ts[j].t.c, .slice A' m' d'] := by
          show w2.heap[wr.heap.size]? = _
          rw [hb2'.block _ (Nat.lt_succ_self _)]
          exact heap_alloc_new wr _
        have ho2 := (Ho.out.alloc (Obj.cells #[.int .i64 ts[j].v, .bool ts[j].t.never, .int .u8 ts[j].t.c, .slice A' m' d'] 41)).kept (below_grown hb2) (by simp [Value.ownBlock])
        have hbw : Below wr.heap.size wr w2 := ((Below.refl wr.heap.size wr).alloc (Nat.le_refl _) (Obj.cells #[.int .i64 ts[j].v, .bool ts[j].t.never, .int .u8 ts[j].t.c, .slice A' m' d'] 41)).trans (hb2.mono (by simp))
        have hkB : ∀ q : Addr, q.block < B → w2.cell? q = wr.cell? q := fun q hq => hbw.cell (by omega)
        have HkB := Lib.hid hkB
        have Ho2 := Lib.hid ho2
        have hsz2 : w.heap.size ≤ w2.heap.size := Nat.le_trans hsz hbw.size
        have hbel2 : Below base w w2 := hbel.trans (hbw.mono (by omega))
        have Hr2 := Lib.hid (Hr.out.keep hkB)
        clear hb2 hb2' ho2 hkB hra hbw hbel hsz c0 c1 c2 c3
        have hfs := filter_take_succU (fun t => !p t) ts j hj'
        cases hpj : p ts[j]
        · rw [hpj] at hfs
          simp only [Bool.not_false, if_true] at hfs
          have Hfs := Lib.hid hfs
          clear hfs hpj
          have hin2 : i < n := by omega
          have hcl : cs.length = n * 4 := Ho2.out.1
          have d0 : w2.cell? ⟨wr.heap.size, 0, none⟩ = some (.int .i64 ts[j].v) := hvb.cell 0
          have d1 : w2.cell? ⟨wr.heap.size, 1, none⟩ = some (.bool ts[j].t.never) := hvb.cell 1
          have d2 : w2.cell? ⟨wr.heap.size, 2, none⟩ = some (.int .u8 ts[j].t.c) := hvb.cell 2
          have d3 : w2.cell? ⟨wr.heap.size, 3, none⟩ = some (.slice A' m' d') := hvb.cell 3
          obtain ⟨y0, x0⟩ : ∃ y, w2.cell? ⟨g, i * 4, none⟩ = some y := ⟨_, by rw [Ho2.out.cellAt _ (by omega)]; exact List.getElem?_eq_getElem (by omega)⟩
          obtain ⟨y1, x1⟩ : ∃ y, w2.cell? ⟨g, i * 4 + 1, none⟩ = some y := ⟨_, by rw [Ho2.out.cellAt _ (by omega)]; exact List.getElem?_eq_getElem (by omega)⟩
          obtain ⟨y2, x2⟩ : ∃ y, w2.cell? ⟨g, i * 4 + 2, none⟩ = some y := ⟨_, by rw [Ho2.out.cellAt _ (by omega)]; exact List.getElem?_eq_getElem (by omega)⟩
          obtain ⟨y3, x3⟩ : ∃ y, w2.cell? ⟨g, i * 4 + 3, none⟩ = some y := ⟨_, by rw [Ho2.out.cellAt _ (by omega)]; exact List.getElem?_eq_getElem (by omega)⟩
          have f0 := Ho2.out.frozenAt (i * 4)
          have f3 := Ho2.out.frozenAt (i * 4 + 3)
          have f1 := Ho2.out.frozenAt (i * 4 + 1)
          have f2 := Ho2.out.frozenAt (i * 4 + 2)
          have Hcl := Lib.hid hcl
          clear hcl hvb
          go_wp2_with fail
          go_roundg (n - (j + 1))
          case measure => omega
          case rel =>
            have hs1 := (Ho2.out.stored (i * 4) (.int .i64 ts[j].v)).1
            have hs2 := (hs1.stored (i * 4 + 1) (.bool ts[j].t.never)).1
            have hs3 := (hs2.stored (i * 4 + 2) (.int .u8 ts[j].t.c)).1
            have hs4 := (hs3.stored (i * 4 + 3) (.slice A' m' d')).1
            have hkeep : ∀ q : Addr, q.block < B → ((((w2.setCell ⟨g, i * 4, none⟩ (.int .i64 ts[j].v)).setCell ⟨g, i * 4 + 1, none⟩ (.bool ts[j].t.never)).setCell ⟨g, i * 4 + 2, none⟩ (.int .u8 ts[j].t.c)).setCell ⟨g, i * 4 + 3, none⟩ (.slice A' m' d')).cell? q = w2.cell? q := by
              intro q hq
              rw [World.cell?_setCell_other _ _ _ _ (fun e => by subst e; simp at hq; omega), World.cell?_setCell_other _ _ _ _ (fun e => by subst e; simp at hq; omega), World.cell?_setCell_other _ _ _ _ (fun e => by subst e; simp at hq; omega), World.cell?_setCell_other _ _ _ _ (fun e => by subst e; simp at hq; omega)]
            have hout : ∀ k, k < i * 4 ∨ i * 4 + 4 ≤ k → ((((cs.set (i * 4) (.int .i64 ts[j].v)).set (i * 4 + 1) (.bool ts[j].t.never)).set (i * 4 + 2) (.int .u8 ts[j].t.c)).set (i * 4 + 3) (.slice A' m' d'))[k]? = cs[k]? := by
              intro k hk
              rw [List.getElem?_set_ne (by omega), List.getElem?_set_ne (by omega), List.getElem?_set_ne (by omega), List.getElem?_set_ne (by omega)]
            refine ⟨i + 1, j + 1, _, by omega, by omega, rfl, by go_num, by go_num, ?_, hs4, ?_, ?_, (((hbel2.setCell (by exact hbg) _).setCell (by exact hbg) _).setCell (by exact hbg) _).setCell (by exact hbg) _, by simpa using hsz2⟩
            · rw [Hfs.out, List.length_append, ← Hi.out]; rfl
            · rw [Hfs.out]
              intro x hx
              rw [List.length_append, ← Hi.out] at hx
              rcases Nat.lt_or_ge x i with h | h
              · rw [List.getElem_append_left (by rw [← Hi.out]; exact h)]
                exact (((Hpre.out x (by rw [← Hi.out]; exact h)).keep HkB.out).keep hkeep).congr fun k h1 h2 => hout k (by omega)
              · have hxi : x = i := by simp at hx; omega
                subst hxi
                rw [List.getElem_append_right (by rw [← Hi.out]; exact Nat.le_refl _)]
                have e0 : (([ts[j]] : List UseD)[x - ((ts.take j).filter fun t => !p t).length]'(by rw [← Hi.out]; simp)) = ts[j] := by
                  have : x - ((ts.take j).filter fun t => !p t).length = 0 := by rw [← Hi.out]; omega
                  simp [this]
                rw [e0]
                have hl := Hcl.out
                exact ⟨A', m', d', by rw [List.getElem?_set_ne (by omega), List.getElem?_set_ne (by omega), List.getElem?_set_ne (by omega), List.getElem?_set_self (by omega)], by rw [List.getElem?_set_ne (by omega), List.getElem?_set_ne (by omega), List.getElem?_set_self (by simp; omega)], by rw [List.getElem?_set_ne (by omega), List.getElem?_set_self (by simp; omega)], by rw [List.getElem?_set_self (by simp; omega)], Hr2.out.keep hkeep⟩
            · intro y hy hjy
              exact (((Hsuf.out y hy (by omega)).keep HkB.out).keep hkeep).congr fun k h1 h2 => hout k (by omega)
        · rw [hpj] at hfs
          simp only [Bool.not_true, Bool.false_eq_true, if_false, List.append_nil] at hfs
          have Hfs := Lib.hid hfs
          clear hfs hpj hvb
          go_wp2_with fail
          go_roundg (n - (j + 1))
          case measure => omega
          case rel =>
            refine ⟨i, j + 1, cs, by omega, by omega, rfl, rfl, by go_num, ?_, Ho2.out, ?_, fun y hy hjy => (Hsuf.out y hy (by omega)).keep HkB.out, hbel2, hsz2⟩
            · rw [Hfs.out]; exact Hi.out
            · rw [Hfs.out]
              intro x hx
              exact (Hpre.out x hx).keep HkB.out
      · have hjn : j = n := by omega
        subst hjn
        have hall : ts.take j = ts := List.take_of_length_le (by rw [Hlen.out]; exact Nat.le_refl _)
        have Hall := Lib.hid hall
        clear hall
        have hci : ¬ (c = i) := by omega
        have hclr := fun ty => run_clear_cells (P := Try.prog) wr 25 41 ty (.agg #[.int .i64 0, .bool false, .int .u8 0, .slice none 0 0]) #[.int .i64 0, .bool false, .int .u8 0, .slice none 0 0] Try.underlying25 Try.zeroValue41 rfl (by simp [Value.oneCell']) (by simp) g (i * 4) (j - i) (c - i) (by omega) (fun k hk => by
          have hk' : k < (j - i) * 4 := hk
          rw [Ho.out.cellAt _ (by omega), List.getElem?_eq_getElem (by rw [Ho.out.1]; omega)]; rfl) (fun k hk => Ho.out.frozenAt _)
        go_wp2_with fail
        go_ret
        obtain ⟨cs', hs1, hs2, hs3⟩ := ownsRow_setCells (Builtin.zeroCells #[.int .i64 0, .bool false, .int .u8 0, .slice none 0 0] (j - i)).toList cs (i * 4) wr Ho.out
        have hkeep : ∀ q : Addr, q.block < B → (wr.setCells g (i * 4) (Builtin.zeroCells #[.int .i64 0, .bool false, .int .u8 0, .slice none 0 0] (j - i)).toList).cell? q = wr.cell? q := by
          intro q hq
          rcases Nat.lt_or_ge q.block wr.heap.size with h | h
          · exact World.cell?_of_block (hs3.block q.block h (by simp; omega))
          · omega
        refine ⟨_, i, rfl, .inr ⟨g, c, rfl⟩, ⟨?_, _, ownsRow_cut hs1 (by omega), ?_⟩, hbel.grown hs3 (Nat.le_trans hbase hsz) (fun k hk => by injection hk with hk; omega)⟩
        · rw [← Hall.out]; exact Hi.out.symm
        · intro x hx
          have hx' : x < ((ts.take j).filter fun t => !p t).length := by rw [Hall.out]; exact hx
          have h1 := Hpre.out x hx'
          have hxi : x < i := by rw [Hi.out]; exact hx'
          have e1 : ((ts.take j).filter fun t => !p t)[x] = (ts.filter fun t => !p t)[x] := by
            congr 1
            rw [Hall.out]
          rw [e1] at h1
          exact ((h1.keep hkeep).congr fun k h2 h3 => hs2 k (by omega)).cut hxi

end Go.Proofs.Ytimlbpjdgnapoaa

/- uses.Take, At, Vars, Of. -/
namespace Go.Proofs.Ytimlbpjdgnapoaa
set_option linter.unusedVariables false
set_option linter.unusedSimpArgs false
open Go.RowKit

/-- the call returns uses -/
def RetU (xs : List UseD) (w : World) (e : Ending) (w' : World) : Prop :=
  ∃ A n c, e = .returned (.slice A n c) ∧ UsesV w' w'.heap.size A n c xs ∧ Below w.heap.size w w'
/-- the call returns a term, uses and the error x -/
def RetTU (t : TermD) (xs : List UseD) (x : Int) (w : World) (e : Ending) (w' : World) : Prop :=
  ∃ A n c A' n' c', e = .returned (.tuple #[.agg #[.bool t.never, .int .u8 t.c, .slice A n c], .slice A' n' c', .int .i64 x]) ∧ RdI .i64 w' w'.heap.size A n c t.vars ∧ UsesV w' w'.heap.size A' n' c' xs ∧ Below w.heap.size w w'

/-- uses do not lie in a block that holds a term -/
theorem UsesV.put3 {w : World} {B : Nat} {A : Option Addr} {n c : Nat} {xs : List UseD} {g : Nat} {t : TypeId} {x : Bool} {y : Int} {a : Option Addr} {m d : Nat}
    (h : UsesV w B A n c xs) (hs : Blk w g t #[.bool x, .int .u8 y, .slice a m d]) (v0 v1 v2 : Value) :
    UsesV (((w.setCell ⟨g, 0, none⟩ v0).setCell ⟨g, 1, none⟩ v1).setCell ⟨g, 2, none⟩ v2) B A n c xs := by
  obtain ⟨h1, h2, h3, h4⟩ := h
  refine ⟨h1, h2, h3, fun hn => ?_⟩
  obtain ⟨b, off, e, hb, hc⟩ := h4 hn
  have hne : b ≠ g := by
    rintro rfl
    have := (hc 0 (by omega)).1
    rw [hs.cell] at this
    generalize off + 0 * 4 = k at this
    match k, this with
    | 0, this => simp at this
    | 1, this => simp at this
    | 2, this => simp at this
    | k + 3, this => simp at this
  refine ⟨b, off, e, hb, fun i hi => ?_⟩
  obtain ⟨e0, A', n', c', e1, e2, e3, hr⟩ := hc i hi
  exact ⟨(set3_other w _ hne _ _ _).trans e0, A', n', c', (set3_other w _ hne _ _ _).trans e1, (set3_other w _ hne _ _ _).trans e2, (set3_other w _ hne _ _ _).trans e3, hr.put3 hs _ _ _⟩

theorem filter_ne (xs : List UseD) (v : Int) : (xs.filter fun t => !(t.v == v)) = xs.filter fun t => t.v != v := rfl

set_option maxHeartbeats 1000000 in
theorem take_no (v : Int) (A : Option Addr) (n c : Nat) (xs : List UseD) (w : World) (hx : UsesV w w.heap.size A n c xs) (hm : mayU xs = false) :
    Calls Try.prog 17 #[.slice A n c, .int .i64 v] w (RetTU ⟨false, 0, []⟩ [] 2 w) := by
  have hb0 : Below w.heap.size w ((w.alloc (Obj.cells #[.int .i64 v] 3)).alloc (Obj.cells #[.bool false, .int .u8 0, .slice none 0 0] 37)) := ((Below.refl _ _).alloc (Nat.le_refl _) _).alloc (by simp) _
  have hz := blk_new (w.alloc (Obj.cells #[.int .i64 v] 3)) #[.bool false, .int .u8 0, .slice none 0 0] 37
  rw [World.size_alloc] at hz
  have hq := usesMay_any A n c xs _ ((hx.below hb0).more hb0.size)
  rw [mayUE_no hm] at hq
  have Hq := Lib.hid hq
  have Hb0 := Lib.hid hb0
  have Hz := Lib.hid hz
  clear hq hx hm hb0 hz
  go_enter Try.func17, Try.ntmps17
  go_wp2_with fail
  refine Hq.out.mono ?_; rintro e w1 ⟨rfl, hb1⟩
  have hz1 := Hz.out.below hb1 Hz.out.lt
  have hbel := Hb0.out.trans (hb1.mono Hb0.out.size)
  have z0 : w1.cell? ⟨w.heap.size + 1, 0, none⟩ = some (.bool false) := hz1.cell 0
  have z1 : w1.cell? ⟨w.heap.size + 1, 1, none⟩ = some (.int .u8 0) := hz1.cell 1
  have z2 : w1.cell? ⟨w.heap.size + 1, 2, none⟩ = some (.slice none 0 0) := hz1.cell 2
  have f0 := hz1.frozen 0
  have f1 := hz1.frozen 1
  have f2 := hz1.frozen 2
  go_wp2_with fail
  have hs := hz1.set3 (.bool false) (.int .u8 0) (.slice none 0 0)
  have hb3 := ((hbel.setCell (p := ⟨w.heap.size + 1, 0, none⟩) (Nat.le_succ _) (.bool false)).setCell (p := ⟨w.heap.size + 1, 1, none⟩) (Nat.le_succ _) (.int .u8 0)).setCell (p := ⟨w.heap.size + 1, 2, none⟩) (Nat.le_succ _) (.slice none 0 0)
  generalize (((w1.setCell ⟨w.heap.size + 1, 0, none⟩ (.bool false)).setCell ⟨w.heap.size + 1, 1, none⟩ (.int .u8 0)).setCell ⟨w.heap.size + 1, 2, none⟩ (.slice none 0 0)) = W3 at hs hb3 ⊢
  have d0 : W3.cell? ⟨w.heap.size + 1, 0, none⟩ = some (.bool false) := hs.cell 0
  have d1 : W3.cell? ⟨w.heap.size + 1, 1, none⟩ = some (.int .u8 0) := hs.cell 1
  have d2 : W3.cell? ⟨w.heap.size + 1, 2, none⟩ = some (.slice none 0 0) := hs.cell 2
  exact bodyPost_ret (v := .tuple #[.agg #[.bool false, .int .u8 0, .slice none 0 0], .slice none 0 0, .int .i64 2]) (by simp [results, Try.results17, go_sem, d0, d1, d2]) rfl ⟨none, 0, 0, none, 0, 0, rfl, RdI.nil, UsesV.nil, hb3⟩

set_option maxHeartbeats 2000000 in
theorem take_yes (v : Int) (A : Option Addr) (n c : Nat) (xs : List UseD) (w : World) (hx : UsesV w w.heap.size A n c xs) (hm : mayU xs = true) (hv : -9223372036854775808 ≤ v ∧ v ≤ 9223372036854775807) :
    Calls Try.prog 17 #[.slice A n c, .int .i64 v] w (RetTU (ofU xs v) (xs.filter fun t => t.v != v) 0 w) := by
  have hb0 : Below w.heap.size w ((w.alloc (Obj.cells #[.int .i64 v] 3)).alloc (Obj.cells #[.bool false, .int .u8 0, .slice none 0 0] 37)) := ((Below.refl _ _).alloc (Nat.le_refl _) _).alloc (by simp) _
  have hz := blk_new (w.alloc (Obj.cells #[.int .i64 v] 3)) #[.bool false, .int .u8 0, .slice none 0 0] 37
  rw [World.size_alloc] at hz
  have hi := (blk_new w #[.int .i64 v] 3).alloc (Obj.cells #[.bool false, .int .u8 0, .slice none 0 0] 37)
  have hq := usesMay_any A n c xs _ ((hx.below hb0).more hb0.size)
  rw [mayUE_yes hm] at hq
  have hri := mayU_rise hm
  have hn : n ≤ 1048576 := by rw [← hx.len]; exact (mayU_rises hm).2
  have Hq := Lib.hid hq
  have Hb0 := Lib.hid hb0
  have Hz := Lib.hid hz
  have Hi := Lib.hid hi
  have Hx := Lib.hid hx
  have Hri := Lib.hid hri
  clear hq hx hb0 hz hi hri
  go_enter Try.func17, Try.ntmps17
  go_wp2_with fail
  refine Hq.out.mono ?_; rintro e w1 ⟨rfl, hb1⟩
  have hz1 := Hz.out.below hb1 Hz.out.lt
  have hi1 := Hi.out.below hb1 Hi.out.lt
  have hbel := Hb0.out.trans (hb1.mono Hb0.out.size)
  have i1 : w1.cell? ⟨w.heap.size, 0, none⟩ = some (.int .i64 v) := hi1.cell 0
  have hof := ofU_low w.heap.size v A n c xs w1 (Hx.out.below hbel) hbel.size Hri.out hv hn
  have Hof := Lib.hid hof
  have Hz1 := Lib.hid hz1
  have Hi1 := Lib.hid hi1
  have Hbel := Lib.hid hbel
  clear hof hz1 hi1 hbel hb1 Hb0 Hq
  go_wp2_with fail
  refine Hof.out.mono ?_; rintro e w2 ⟨A2, n2, c2, rfl, hr2, hb2⟩
  obtain ⟨T, hT⟩ : ∃ T, ofU xs v = T := ⟨_, rfl⟩
  rw [hT] at hr2 ⊢
  have HT := Lib.hid hT
  clear hT
  have hbel2 := Hbel.out.trans (hb2.mono Hbel.out.size)
  have hz2 := Hz1.out.below hb2 Hz1.out.lt
  have hi2 := Hi1.out.below hb2 Hi1.out.lt
  have hcl := cloneU_any A n c xs w2 ((Hx.out.below hbel2).more hbel2.size) (by omega)
  have Hcl := Lib.hid hcl
  have Hr2 := Lib.hid hr2
  have Hz2 := Lib.hid hz2
  have Hi2 := Lib.hid hi2
  have Hbel2 := Lib.hid hbel2
  clear hcl hr2 hz2 hi2 hbel2 hb2 i1
  go_wp2_with fail
  refine Hcl.out.mono ?_; rintro e w3 ⟨v1, rfl, hown, hform, hb3⟩
  have hi3 := Hi2.out.below hb3 Hi2.out.lt
  have hdel := deleteU_any v w.heap.size w2.heap.size w2.heap.size n v1 xs w3 hown (Nat.le_refl _) hb3.size (hi3.cell 0) Hi2.out.lt hform
  have Hdel := Lib.hid hdel
  have Hb3 := Lib.hid hb3
  clear hdel hown hform hi3 hb3
  go_wp2_with fail
  refine Hdel.out.mono ?_; rintro e w4 ⟨v2, m, rfl, hf4, hown4, hb4⟩
  have hb24 : Below w2.heap.size w2 w4 := Hb3.out.trans hb4
  have hz4 := Hz2.out.below hb24 Hz2.out.lt
  have hbel4 := Hbel2.out.trans (hb24.mono Hbel2.out.size)
  have hr4 := Hr2.out.below (hb24.mono Hbel2.out.size)
  obtain ⟨A4, c4, rfl⟩ : ∃ A4 c4, v2 = .slice A4 m c4 := by
    obtain ⟨_, cs, ho, _⟩ := hown4
    exact ownsRow_form ho
  have hu4 := (hown4.uses (by have := hb24.size; omega)).2
  rw [filter_ne] at hu4
  have z0 : w4.cell? ⟨w.heap.size + 1, 0, none⟩ = some (.bool false) := hz4.cell 0
  have z1 : w4.cell? ⟨w.heap.size + 1, 1, none⟩ = some (.int .u8 0) := hz4.cell 1
  have z2 : w4.cell? ⟨w.heap.size + 1, 2, none⟩ = some (.slice none 0 0) := hz4.cell 2
  have f0 := hz4.frozen 0
  have f1 := hz4.frozen 1
  have f2 := hz4.frozen 2
  have Hr4 := Lib.hid hr4
  have Hu4 := Lib.hid hu4
  clear hr4 hu4 hown4 hf4 Hdel hb4
  go_wp2_with fail
  have hs := hz4.set3 (.bool T.never) (.int .u8 T.c) (.slice A2 n2 c2)
  have hb3 := ((hbel4.setCell (p := ⟨w.heap.size + 1, 0, none⟩) (Nat.le_succ _) (.bool T.never)).setCell (p := ⟨w.heap.size + 1, 1, none⟩) (Nat.le_succ _) (.int .u8 T.c)).setCell (p := ⟨w.heap.size + 1, 2, none⟩) (Nat.le_succ _) (.slice A2 n2 c2)
  have hr9 := (Hr4.out.put3 hz4 (.bool T.never) (.int .u8 T.c) (.slice A2 n2 c2)).more (B' := (((w4.setCell ⟨w.heap.size + 1, 0, none⟩ (.bool T.never)).setCell ⟨w.heap.size + 1, 1, none⟩ (.int .u8 T.c)).setCell ⟨w.heap.size + 1, 2, none⟩ (.slice A2 n2 c2)).heap.size) (by simpa using hbel4.size)
  have hu9 := (Hu4.out.put3 hz4 (.bool T.never) (.int .u8 T.c) (.slice A2 n2 c2)).more (B' := (((w4.setCell ⟨w.heap.size + 1, 0, none⟩ (.bool T.never)).setCell ⟨w.heap.size + 1, 1, none⟩ (.int .u8 T.c)).setCell ⟨w.heap.size + 1, 2, none⟩ (.slice A2 n2 c2)).heap.size) (by simp)
  generalize (((w4.setCell ⟨w.heap.size + 1, 0, none⟩ (.bool T.never)).setCell ⟨w.heap.size + 1, 1, none⟩ (.int .u8 T.c)).setCell ⟨w.heap.size + 1, 2, none⟩ (.slice A2 n2 c2)) = W3 at hs hb3 hr9 hu9 ⊢
  have d0 : W3.cell? ⟨w.heap.size + 1, 0, none⟩ = some (.bool T.never) := hs.cell 0
  have d1 : W3.cell? ⟨w.heap.size + 1, 1, none⟩ = some (.int .u8 T.c) := hs.cell 1
  have d2 : W3.cell? ⟨w.heap.size + 1, 2, none⟩ = some (.slice A2 n2 c2) := hs.cell 2
  exact bodyPost_ret (v := .tuple #[.agg #[.bool T.never, .int .u8 T.c, .slice A2 n2 c2], .slice A4 m c4, .int .i64 0]) (by simp [results, Try.results17, go_sem, d0, d1, d2]) rfl (by rw [HT.out]; exact ⟨A2, n2, c2, A4, m, c4, rfl, hr9, hu9, hb3⟩)

/-- the use of a variable under an assignment -/
def atU (xs : List UseD) (v : Int) (asg : List Int) : Int × Int := if mayU xs then atR (ofU xs v) asg else (0, 2)
set_option maxHeartbeats 1000000 in
theorem atU_any (v : Int) (A : Option Addr) (n c : Nat) (xs : List UseD) (A' : Option Addr) (n' c' : Nat) (asg : List Int) (w : World) (hx : UsesV w w.heap.size A n c xs) (ha : RdI .u8 w w.heap.size A' n' c' asg) (hv : -9223372036854775808 ≤ v ∧ v ≤ 9223372036854775807) :
    Calls Try.prog 35 #[.slice A n c, .int .i64 v, .slice A' n' c'] w fun e w' => e = .returned (.tuple #[.int .u8 (atU xs v asg).1, .int .i64 (atU xs v asg).2]) ∧ Below w.heap.size w w' := by
  have hq := usesMay_any A n c xs w hx
  cases hm : mayU xs with
  | false =>
    rw [mayUE_no hm] at hq
    have hj : atU xs v asg = (0, 2) := by unfold atU; rw [if_neg (by simp [hm])]
    have Hj := Lib.hid hj
    have Hq := Lib.hid hq
    clear hq hj hx ha hm
    go_enter Try.func35, Try.ntmps35
    go_wp2_with fail
    refine Hq.out.mono ?_; rintro e w1 ⟨rfl, hb1⟩
    go_wp2_with fail
    go_ret2
    exact ⟨by rw [Hj.out]; rfl, hb1⟩
  | true =>
    rw [mayUE_yes hm] at hq
    have hj : atU xs v asg = atR (ofU xs v) asg := by unfold atU; rw [if_pos hm]
    have hn : n ≤ 1048576 := by rw [← hx.len]; exact (mayU_rises hm).2
    have hri := mayU_rise hm
    have Hj := Lib.hid hj
    have Hq := Lib.hid hq
    have Hx := Lib.hid hx
    have Ha := Lib.hid ha
    have Hri := Lib.hid hri
    clear hq hj hx ha hri
    go_enter Try.func35, Try.ntmps35
    go_wp2_with fail
    refine Hq.out.mono ?_; rintro e w1 ⟨rfl, hb1⟩
    have hof := ofU_low w.heap.size v A n c xs w1 (Hx.out.below hb1) hb1.size Hri.out hv hn
    have Hof := Lib.hid hof
    have Hb1 := Lib.hid hb1
    clear hof hb1 Hq
    go_wp2_with fail
    refine Hof.out.mono ?_; rintro e w2 ⟨A2, n2, c2, rfl, hr2, hb2⟩
    have hbel := Hb1.out.trans (hb2.mono Hb1.out.size)
    have hat := at_any (.agg #[.bool (ofU xs v).never, .int .u8 (ofU xs v).c, .slice A2 n2 c2]) (ofU xs v) A' n' c' asg w2 w.heap.size w.heap.size ⟨A2, n2, c2, rfl, hr2⟩ hbel.size (Ha.out.below hbel) hbel.size
    rw [← Hj.out] at hat
    have Hat := Lib.hid hat
    clear hat hr2 Hof hb2
    go_wp2_with fail
    refine Hat.out.mono ?_; rintro e w3 ⟨rfl, hb3⟩
    have hbel3 := hbel.trans (hb3.mono hbel.size)
    go_wp2_with fail
    go_ret2
    exact ⟨rfl, hbel3⟩

/-- all variables of multiplicities that stand in uses -/
def allVs (l : List UseD) : List Int := l.flatMap fun x => x.t.vars
theorem allVs_snoc (l : List UseD) (x : UseD) : allVs (l ++ [x]) = allVs l ++ x.t.vars := by simp [allVs]
theorem allVs_take_le (l : List UseD) (k : Nat) : (allVs (l.take k)).length ≤ (allVs l).length := by
  have : (allVs l).length = (allVs (l.take k)).length + (allVs (l.drop k)).length := by
    conv => lhs; rw [← List.take_append_drop k l]
    simp only [allVs, List.flatMap_append, List.length_append]
  omega
set_option maxHeartbeats 2000000 in
theorem vars_any (A : Option Addr) (n c : Nat) (xs : List UseD) (w : World) (hx : UsesV w w.heap.size A n c xs) (hV : (allVs xs).length ≤ 1099511627776) :
    Calls Try.prog 32 #[.slice A n c] w (RetI .i64 (sset (allVs xs)) w) := by
  have hxl := hx.len
  have n63 : n ≤ 9223372036854775807 := Nat.le_trans hx.2.1 hx.2.2.1
  have Hx := Lib.hid hx
  obtain ⟨i0, hi0, hz0, hz1, hz2⟩ := info_parts (show (Try.prog.info? 3).map (fun i => (i.zero, i.size, i.bytes)) = some (some (.int .i64 0), 1, 8) from by kernel_rfl)
  clear hx
  go_enter Try.func32, Try.ntmps32
  go_wp2_with fail
  go_loopg [3, 8] n (fun gh vs i wr => ∃ (k m : Nat), k ≤ n ∧ gh = n - k ∧ i = .int .i64 k ∧ m = (allVs (xs.take k)).length ∧ wr.ownsRow w.heap.size 3 1 vs m ((allVs (xs.take k)).map (Value.int .i64)) ∧ Below w.heap.size w wr)
  case atStart => exact ⟨0, 0, Nat.zero_le _, rfl, rfl, rfl, World.ownsRow_nil _ _ _ _, Below.refl _ _⟩
  case round =>
    obtain ⟨k, m, hk, rfl, rfl, hm, ho, hbel⟩ := hrel
    by_cases hkn : k < n
    · obtain ⟨b, o, q, hb, hc⟩ := (Hx.out.below hbel).at_ (by omega)
      subst q
      have hk' : k < xs.length := by omega
      obtain ⟨e0, Ax, nx, cx, e1, e2, e3, hrx⟩ := hc k hk'
      have hstep : xs.take (k + 1) = xs.take k ++ [xs[k]] := List.take_succ_eq_append_getElem hk'
      have hle := allVs_take_le xs (k + 1)
      obtain ⟨x, hxk⟩ : ∃ x, xs[k] = x := ⟨_, rfl⟩
      rw [hxk] at e0 e1 e2 hrx hstep
      rw [hstep, allVs_snoc, List.length_append, ← hm, hrx.len] at hle
      replace e2 : wr.cell? ⟨b, o + k * 4 + 2, none⟩ = some (.int .u8 x.t.c) := e2
      replace e3 : wr.cell? ⟨b, o + k * 4 + 3, none⟩ = some (.slice Ax nx cx) := e3
      have k1 : (0 : Int) ≤ (k : Int) := by omega
      have k2 : (k : Int) < n := by omega
      have hbx := hbel.alloc hbel.size (Obj.cells #[.int .i64 x.v, .bool x.t.never, .int .u8 x.t.c, .slice Ax nx cx] 41)
      have hox := ho.alloc (Obj.cells #[.int .i64 x.v, .bool x.t.never, .int .u8 x.t.c, .slice Ax nx cx] 41)
      have hrx2 := hrx.below (w' := wr.alloc (Obj.cells #[.int .i64 x.v, .bool x.t.never, .int .u8 x.t.c, .slice Ax nx cx] 41)) ((Below.refl _ _).alloc hbel.size _)
      obtain ⟨A1, c1, rfl⟩ := ownsRow_form ho
      have Hm := Lib.hid hm
      have Hst := Lib.hid hstep
      have Hbx := Lib.hid hbx
      have Hox := Lib.hid hox
      have Hrx := Lib.hid hrx2
      clear hc hrx hrx2 hbx hox ho hbel hstep hxk hm
      go_wp2_with (at_builtin; go_must (refine wpList_append_rd (wr.alloc (Obj.cells #[.int .i64 x.v, .bool x.t.never, .int .u8 x.t.c, .slice Ax nx cx] 41)) rfl (.tmp 12) (.tmp 15) 35 rfl w.heap.size 3 i0 _ 1 8 Try.underlying35 hi0 hz0 hz1 hz2 rfl (by omega) (.slice A1 m c1) m _ rfl Hox.out w.heap.size Ax nx cx (x.t.vars.map (Value.int .i64)) rfl Hrx.out.1 (by intro u hu; obtain ⟨y, _, rfl⟩ := List.mem_map.1 hu; rfl) (by unfold maxLen; omega) (by omega) Hbx.out.size ?_); intro v2 w2 ho2 hg2 hat2)
      go_roundg (n - (k + 1))
      case measure => omega
      case rel =>
        refine ⟨k + 1, m + nx, by omega, rfl, by go_num, ?_, ?_, Hbx.out.grown hg2 Hbx.out.size (fun j hj => (Hox.out.lt _ hj).1)⟩
        · rw [Hst.out, allVs_snoc, List.length_append, ← Hm.out, Hrx.out.len]
        · rw [Hst.out, allVs_snoc, List.map_append]; exact ho2
    · have hkn' : k = n := by omega
      subst hkn'
      rw [List.take_of_length_le (by omega)] at ho hm
      subst hm
      have hs := sort0_any w.heap.size _ _ w wr ho (by omega) hbel hbel.size
      have Hs := Lib.hid hs
      clear hs ho hbel
      go_wp2_with fail
      refine Hs.out.mono ?_; rintro e w2 ⟨rfl, ho2, hbel2, hz2'⟩
      have hls : ((allVs xs).mergeSort fun x y => decide (x ≤ y)).length = (allVs xs).length := List.length_mergeSort _
      rw [← hls] at ho2
      have hs := compact0_any w.heap.size _ _ w w2 ho2 hbel2
      have Hs := Lib.hid hs
      clear hs ho2 hbel2 hls
      go_wp2_with fail
      refine Hs.out.mono ?_; rintro e w3 ⟨A3, c3, rfl, ho3, hbel3, hz3⟩
      have HR := Lib.hid (RdI.of_own ho3)
      clear ho3
      go_wp2_with fail
      go_ret
      exact ⟨A3, _, c3, rfl, HR.out, hbel3⟩

def ofV (v : Int) : List UseD := if 0 ≤ v ∧ v < 1048576 then [⟨v, ⟨false, 1, []⟩⟩] else []
theorem useOf_any (v : Int) (w : World) : Calls Try.prog 19 #[.int .i64 v] w (RetU (ofV v) w) := by
  by_cases h0 : 0 ≤ v
  · by_cases h1 : v < 1048576
    · have d0 : decide (v < 0) = false := by simp; omega
      have d1 : decide (v ≥ 1048576) = false := by simp; omega
      have hq := of_any_t 1 w
      have he : ofT 1 = ⟨false, 1, []⟩ := by
        have h1 : leastI 1 = 1 := by decide
        simp [ofT, h1]
      rw [he] at hq
      have Hq := Lib.hid hq
      have hj : ofV v = [⟨v, ⟨false, 1, []⟩⟩] := by unfold ofV; rw [if_pos ⟨h0, h1⟩]
      rw [hj]
      clear hq hj h0 h1
      go_enter Try.func19, Try.ntmps19
      go_wp2_with fail
      refine Hq.out.mono ?_; rintro e w1 ⟨A1, n1, c1, rfl, hr1, hb1⟩
      go_wp2_with fail
      go_ret
      have hbx := below_box (w := w1) (Obj.cells #[.int .i64 v, .bool false, .int .u8 1, .slice A1 n1 c1] 41)
      have hX := blk_new w1 #[.int .i64 v, .bool false, .int .u8 1, .slice A1 n1 c1] 41
      refine ⟨_, 1, 1, rfl, ⟨rfl, Nat.le_refl _, by unfold maxLen; omega, fun _ => ⟨w1.heap.size, 0, rfl, by simp, fun i hi => ?_⟩⟩, hb1.trans (hbx.mono hb1.size)⟩
      have hi0 : i = 0 := by simpa using hi
      subst hi0
      exact ⟨hX.cell 0, A1, n1, c1, hX.cell 1, hX.cell 2, hX.cell 3, (hr1.below hbx).more hbx.size⟩
    · have d0 : decide (v < 0) = false := by simp; omega
      have d1 : decide (v ≥ 1048576) = true := by simp; omega
      have hj : ofV v = [] := by unfold ofV; rw [if_neg (fun h => h1 h.2)]
      rw [hj]
      clear hj h0 h1
      go_enter Try.func19, Try.ntmps19
      go_wp2_with fail
      go_ret
      exact ⟨none, 0, 0, rfl, UsesV.nil, Below.refl _ _⟩
  · have d0 : decide (v < 0) = true := by simp; omega
    have hj : ofV v = [] := by unfold ofV; rw [if_neg (fun h => h0 h.1)]
    rw [hj]
    clear hj h0
    go_enter Try.func19, Try.ntmps19
    go_wp2_with fail
    go_ret
    exact ⟨none, 0, 0, rfl, UsesV.nil, Below.refl _ _⟩

end Go.Proofs.Ytimlbpjdgnapoaa

/- uses.Same, Times. -/
namespace Go.Proofs.Ytimlbpjdgnapoaa
set_option linter.unusedVariables false
set_option linter.unusedSimpArgs false
open Go.RowKit

theorem same1_any (x y : UseD) (A : Option Addr) (n c : Nat) (A' : Option Addr) (n' c' : Nat) (w : World) (h1 : RdI .i64 w w.heap.size A n c x.t.vars) (h2 : RdI .i64 w w.heap.size A' n' c' y.t.vars) (r : Bool) (hr : decide (x = y) = r) :
    Calls Try.prog 55 #[.agg #[.int .i64 x.v, .bool x.t.never, .int .u8 x.t.c, .slice A n c], .agg #[.int .i64 y.v, .bool y.t.never, .int .u8 y.t.c, .slice A' n' c']] w fun e w' => e = .returned (.bool r) ∧ Below w.heap.size w w' := by
  obtain ⟨xv, xn, xc, xs⟩ := x
  obtain ⟨yv, yn, yc, ys⟩ := y
  dsimp only at h1 h2 ⊢
  have hbel : Below w.heap.size w ((w.alloc (Obj.cells #[.int .i64 xv, .bool xn, .int .u8 xc, .slice A n c] 41)).alloc (Obj.cells #[.int .i64 yv, .bool yn, .int .u8 yc, .slice A' n' c'] 41)) := ((Below.refl _ _).alloc (Nat.le_refl _) _).alloc (by simp) _
  have hq := same_any (.agg #[.bool xn, .int .u8 xc, .slice A n c]) (.agg #[.bool yn, .int .u8 yc, .slice A' n' c']) ⟨xn, xc, xs⟩ ⟨yn, yc, ys⟩ _ w.heap.size w.heap.size ⟨A, n, c, rfl, h1.below hbel⟩ ⟨A', n', c', rfl, h2.below hbel⟩ hbel.size hbel.size
  have hsb : sameB ⟨xn, xc, xs⟩ ⟨yn, yc, ys⟩ = decide ((⟨xn, xc, xs⟩ : TermD) = ⟨yn, yc, ys⟩) := by
    rw [Bool.eq_iff_iff, sameB_iff, decide_eq_true_iff]
  rw [hsb] at hq
  have Hq := Lib.hid hq
  have Hb := Lib.hid hbel
  clear hq hsb hbel h1 h2
  by_cases e1 : xv = yv
  · subst e1
    have t1 : (xv == xv) = true := by simp
    have H : Hid (decide ((⟨xn, xc, xs⟩ : TermD) = ⟨yn, yc, ys⟩) = r) := by show _ = _; rw [← hr]; simp
    rw [H.out] at Hq
    clear hr H
    go_enter Try.func55, Try.ntmps55
    go_wp2_with fail
    refine Hq.out.mono ?_; rintro e w1 ⟨rfl, hb1⟩
    go_wp2_with fail
    go_ret
    exact ⟨rfl, Hb.out.trans (hb1.mono Hb.out.size)⟩
  · have t1 : (xv == yv) = false := by simp [e1]
    have H : Hid (false = r) := by show _ = _; rw [← hr]; simp [e1]
    clear hr Hq e1
    go_enter Try.func55, Try.ntmps55
    go_wp2_with fail
    go_ret
    exact ⟨ret_bool H.out, Hb.out⟩

set_option maxHeartbeats 1000000 in
theorem sameU_any (A : Option Addr) (n c : Nat) (xs : List UseD) (A' : Option Addr) (n' c' : Nat) (ys : List UseD) (w : World) (hx : UsesV w w.heap.size A n c xs) (hy : UsesV w w.heap.size A' n' c' ys) :
    Calls Try.prog 18 #[.slice A n c, .slice A' n' c'] w fun e w' => e = .returned (.bool (decide (xs = ys))) ∧ Below w.heap.size w w' := by
  have hk : Calls Try.prog 54 #[.slice A n c, .slice A' n' c', .func (.func 55) #[] #[]] w fun e w' => e = .returned (.bool (decide (xs = ys))) ∧ Below w.heap.size w w' := by
    have hxl := hx.len
    have hyl := hy.len
    have n63 : n ≤ 9223372036854775807 := Nat.le_trans hx.2.1 hx.2.2.1
    have Hx := Lib.hid hx
    have Hy := Lib.hid hy
    clear hx hy
    by_cases hne : n = n'
    · subst hne
      have d0 : ((n : Int) != n) = false := by simp
      go_enter Try.func54, Try.ntmps54
      go_wp2_with fail
      go_loopg [17] n (fun gh i wr => ∃ k : Nat, k ≤ n ∧ gh = n - k ∧ i = .int .i64 k ∧ (∀ j (h1 : j < xs.length) (h2 : j < ys.length), j < k → xs[j] = ys[j]) ∧ Below w.heap.size w wr)
      case atStart => exact ⟨0, Nat.zero_le _, rfl, rfl, fun j _ _ h => absurd h (by omega), Below.refl _ _⟩
      case round =>
        obtain ⟨k, hk, rfl, rfl, heq, hbel⟩ := hrel
        have Heq := Lib.hid heq
        have Hbel := Lib.hid hbel
        clear heq
        by_cases hlt : k < n
        · obtain ⟨b, o, q, hb, hc⟩ := (Hx.out.below hbel).at_ (by omega)
          subst q
          obtain ⟨b', o', q', hb', hc'⟩ := (Hy.out.below hbel).at_ (by omega)
          subst q'
          have hk1 : k < xs.length := by omega
          have hk2 : k < ys.length := by omega
          obtain ⟨e0, Ax, nx, cx, e1, e2, e3, hrx⟩ := hc k hk1
          obtain ⟨f0, Ay, ny, cy, f1, f2, f3, hry⟩ := hc' k hk2
          obtain ⟨x, hxk⟩ : ∃ x, xs[k] = x := ⟨_, rfl⟩
          obtain ⟨y, hyk⟩ : ∃ y, ys[k] = y := ⟨_, rfl⟩
          rw [hxk] at e0 e1 e2 hrx
          rw [hyk] at f0 f1 f2 hry
          replace e2 : wr.cell? ⟨b, o + k * 4 + 2, none⟩ = some (.int .u8 x.t.c) := e2
          replace e3 : wr.cell? ⟨b, o + k * 4 + 3, none⟩ = some (.slice Ax nx cx) := e3
          replace f2 : wr.cell? ⟨b', o' + k * 4 + 2, none⟩ = some (.int .u8 y.t.c) := f2
          replace f3 : wr.cell? ⟨b', o' + k * 4 + 3, none⟩ = some (.slice Ay ny cy) := f3
          have hbx1 := below_box (w := wr) (Obj.cells #[.int .i64 x.v, .bool x.t.never, .int .u8 x.t.c, .slice Ax nx cx] 41)
          have g0 : (wr.alloc (Obj.cells #[.int .i64 x.v, .bool x.t.never, .int .u8 x.t.c, .slice Ax nx cx] 41)).cell? ⟨b', o' + k * 4, none⟩ = some (.int .i64 y.v) := (hbx1.cell (p := ⟨b', o' + k * 4, none⟩) (block_lt_of_cell f0)).trans f0
          have g1 : (wr.alloc (Obj.cells #[.int .i64 x.v, .bool x.t.never, .int .u8 x.t.c, .slice Ax nx cx] 41)).cell? ⟨b', o' + k * 4 + 1, none⟩ = some (.bool y.t.never) := (hbx1.cell (p := ⟨b', o' + k * 4 + 1, none⟩) (block_lt_of_cell f1)).trans f1
          have g2 : (wr.alloc (Obj.cells #[.int .i64 x.v, .bool x.t.never, .int .u8 x.t.c, .slice Ax nx cx] 41)).cell? ⟨b', o' + k * 4 + 2, none⟩ = some (.int .u8 y.t.c) := (hbx1.cell (p := ⟨b', o' + k * 4 + 2, none⟩) (block_lt_of_cell f2)).trans f2
          have g3 : (wr.alloc (Obj.cells #[.int .i64 x.v, .bool x.t.never, .int .u8 x.t.c, .slice Ax nx cx] 41)).cell? ⟨b', o' + k * 4 + 3, none⟩ = some (.slice Ay ny cy) := (hbx1.cell (p := ⟨b', o' + k * 4 + 3, none⟩) (block_lt_of_cell f3)).trans f3
          clear f0 f1 f2 f3 hbx1
          have k1 : (0 : Int) ≤ (k : Int) := by omega
          have k2 : (k : Int) < n := by omega
          have hb2 : Below wr.heap.size wr ((wr.alloc (Obj.cells #[.int .i64 x.v, .bool x.t.never, .int .u8 x.t.c, .slice Ax nx cx] 41)).alloc (Obj.cells #[.int .i64 y.v, .bool y.t.never, .int .u8 y.t.c, .slice Ay ny cy] 41)) := ((Below.refl _ _).alloc (Nat.le_refl _) _).alloc (by simp) _
          have hb2' := hbel.trans (hb2.mono hbel.size)
          have hs := same1_any x y Ax nx cx Ay ny cy _ (((hrx.more hbel.size).below hb2).more hb2.size) (((hry.more hbel.size).below hb2).more hb2.size) _ rfl
          have Hb2 := Lib.hid hb2'
          have Hxy : Hid ((∀ j (h1 : j < xs.length) (h2 : j < ys.length), j < k + 1 → xs[j] = ys[j]) ↔ x = y) := Lib.hid (by
            constructor
            · intro h; rw [← hxk, ← hyk]; exact h k hk1 hk2 (by omega)
            · intro h j h1 h2 hj
              rcases Nat.lt_or_ge j k with h' | h'
              · exact Heq.out j h1 h2 h'
              · have : j = k := by omega
                subst this
                rw [hxk, hyk, h])
          have Hno : Hid (x ≠ y → xs ≠ ys) := Lib.hid (fun h e => h (by subst e; rw [← hxk, ← hyk]))
          cases hd : decide (x = y) with
          | true =>
            rw [hd] at hs
            have Hs := Lib.hid hs
            have Hd := Lib.hid (of_decide_eq_true hd)
            clear hs hd hc hc' hrx hry hxk hyk hb2 hb2' hbel Heq Hno
            go_wp2_with fail
            refine Hs.out.mono ?_; rintro e w1 ⟨rfl, hb1⟩
            go_wp2_with fail
            go_roundg (n - (k + 1))
            case measure => omega
            case rel => exact ⟨k + 1, by omega, rfl, by go_num, Hxy.out.2 Hd.out, Hb2.out.trans (hb1.mono Hb2.out.size)⟩
          | false =>
            rw [hd] at hs
            have Hs := Lib.hid hs
            have HF : Hid (false = decide (xs = ys)) := Lib.hid (by rw [eq_comm, decide_eq_false_iff_not]; exact Hno.out (of_decide_eq_false hd))
            clear hs hd hc hc' hrx hry hxk hyk hb2 hb2' hbel Heq Hno Hxy
            go_wp2_with fail
            refine Hs.out.mono ?_; rintro e w1 ⟨rfl, hb1⟩
            go_wp2_with fail
            go_ret
            exact ⟨ret_bool HF.out, Hb2.out.trans (hb1.mono Hb2.out.size)⟩
        · have HF : Hid (true = decide (xs = ys)) := Lib.hid (by
            rw [eq_comm, decide_eq_true_iff]
            exact List.ext_getElem (by omega) fun j h1 h2 => Heq.out j h1 h2 (by omega))
          clear Heq hbel
          go_wp2_with fail
          go_ret
          exact ⟨ret_bool HF.out, Hbel.out⟩
    · have d0 : ((n : Int) != n') = true := by simp; omega
      have HF : Hid (false = decide (xs = ys)) := Lib.hid (by
        rw [eq_comm, decide_eq_false_iff_not]
        intro e
        rw [e] at hxl
        omega)
      go_enter Try.func54, Try.ntmps54
      go_wp2_with fail
      go_ret
      exact ⟨ret_bool HF.out, Below.refl _ _⟩
  generalize decide (xs = ys) = r at hk ⊢
  have Hk := Lib.hid hk
  clear hk hx hy
  go_enter Try.func18, Try.ntmps18
  go_wp2_with fail
  refine Hk.out.mono ?_; rintro e w1 ⟨rfl, hb1⟩
  go_wp2_with fail
  go_ret
  exact ⟨rfl, hb1⟩

end Go.Proofs.Ytimlbpjdgnapoaa

/- uses.Times. -/
namespace Go.Proofs.Ytimlbpjdgnapoaa
set_option linter.unusedVariables false
set_option linter.unusedSimpArgs false
open Go.RowKit

theorem fold_snoc (f : List UseD → Int → List UseD) (o : List UseD) (vs : List Int) (v : Int) : (vs ++ [v]).foldl f o = f (vs.foldl f o) v := by rw [List.foldl_append]; rfl
set_option maxHeartbeats 2000000 in
theorem times_no (A0 : Option Addr) (n0 c0 : Nat) (t : TermD) (A : Option Addr) (n cp : Nat) (l : List UseD) (w : World) (ht : RdI .i64 w w.heap.size A0 n0 c0 t.vars) (hr : UsesV w w.heap.size A n cp l) (h1 : mayB t = false) :
    Calls Try.prog 21 #[.agg #[.bool t.never, .int .u8 t.c, .slice A0 n0 c0], .slice A n cp] w (RetUE [] 2 w) := by
  have hbx := below_box (w := w) (Obj.cells #[.bool t.never, .int .u8 t.c, .slice A0 n0 c0] 37)
  have hz := blk_new w #[.bool t.never, .int .u8 t.c, .slice A0 n0 c0] 37
  have ht0 := (ht.below hbx).more hbx.size
  have hr0 := (hr.below hbx).more hbx.size
  have hq := may_any (.agg #[.bool t.never, .int .u8 t.c, .slice A0 n0 c0]) t _ _ ⟨A0, n0, c0, rfl, ht0⟩ (Nat.le_refl _)
  have z0 : (w.alloc (Obj.cells #[.bool t.never, .int .u8 t.c, .slice A0 n0 c0] 37)).cell? ⟨w.heap.size, 0, none⟩ = some (.bool t.never) := hz.cell 0
  have z1 : (w.alloc (Obj.cells #[.bool t.never, .int .u8 t.c, .slice A0 n0 c0] 37)).cell? ⟨w.heap.size, 1, none⟩ = some (.int .u8 t.c) := hz.cell 1
  have z2 : (w.alloc (Obj.cells #[.bool t.never, .int .u8 t.c, .slice A0 n0 c0] 37)).cell? ⟨w.heap.size, 2, none⟩ = some (.slice A0 n0 c0) := hz.cell 2
  rw [mayE_no h1] at hq
  have Hq := Lib.hid hq
  have Hbx := Lib.hid hbx
  have Hz := Lib.hid hz
  have Ht0 := Lib.hid ht0
  have Hr0 := Lib.hid hr0
  clear hq hbx hz ht0 hr0 ht hr
  go_enter Try.func21, Try.ntmps21
  go_wp2_with fail
  refine Hq.out.mono ?_; rintro e w1 ⟨rfl, hb1⟩
  have hbel := Hbx.out.trans (hb1.mono Hbx.out.size)
  go_wp2_with fail
  exact bodyPost_ret (v := .tuple #[.slice none 0 0, .int .i64 2]) (by simp [results, Try.results21, go_sem]) rfl ⟨none, 0, 0, rfl, UsesV.nil, hbel⟩
set_option maxHeartbeats 2000000 in
theorem times_bad (A0 : Option Addr) (n0 c0 : Nat) (t : TermD) (A : Option Addr) (n cp : Nat) (l : List UseD) (w : World) (ht : RdI .i64 w w.heap.size A0 n0 c0 t.vars) (hr : UsesV w w.heap.size A n cp l) (h1 : mayB t = true) (h2 : mayU l = false) :
    Calls Try.prog 21 #[.agg #[.bool t.never, .int .u8 t.c, .slice A0 n0 c0], .slice A n cp] w (RetUE [] 2 w) := by
  have hbx := below_box (w := w) (Obj.cells #[.bool t.never, .int .u8 t.c, .slice A0 n0 c0] 37)
  have hz := blk_new w #[.bool t.never, .int .u8 t.c, .slice A0 n0 c0] 37
  have ht0 := (ht.below hbx).more hbx.size
  have hr0 := (hr.below hbx).more hbx.size
  have hq := may_any (.agg #[.bool t.never, .int .u8 t.c, .slice A0 n0 c0]) t _ _ ⟨A0, n0, c0, rfl, ht0⟩ (Nat.le_refl _)
  have z0 : (w.alloc (Obj.cells #[.bool t.never, .int .u8 t.c, .slice A0 n0 c0] 37)).cell? ⟨w.heap.size, 0, none⟩ = some (.bool t.never) := hz.cell 0
  have z1 : (w.alloc (Obj.cells #[.bool t.never, .int .u8 t.c, .slice A0 n0 c0] 37)).cell? ⟨w.heap.size, 1, none⟩ = some (.int .u8 t.c) := hz.cell 1
  have z2 : (w.alloc (Obj.cells #[.bool t.never, .int .u8 t.c, .slice A0 n0 c0] 37)).cell? ⟨w.heap.size, 2, none⟩ = some (.slice A0 n0 c0) := hz.cell 2
  rw [mayE_yes h1] at hq
  have Hq := Lib.hid hq
  have Hbx := Lib.hid hbx
  have Hz := Lib.hid hz
  have Ht0 := Lib.hid ht0
  have Hr0 := Lib.hid hr0
  clear hq hbx hz ht0 hr0 ht hr
  go_enter Try.func21, Try.ntmps21
  go_wp2_with fail
  refine Hq.out.mono ?_; rintro e w1 ⟨rfl, hb1⟩
  have hlm := least_may h1
  have hln : (leastT t).vars.length ≤ 1048576 := by
    have h2 := may_vars_len h1
    unfold leastT
    split
    · simp
    · exact h2
  have hz1 := Hz.out.below hb1 Hz.out.lt
  have hbel := Hbx.out.trans (hb1.mono Hbx.out.size)
  have hq := least_any_t (.agg #[.bool t.never, .int .u8 t.c, .slice A0 n0 c0]) t w1 _ ⟨A0, n0, c0, rfl, (Ht0.out.below hb1).more hb1.size⟩ (Nat.le_refl _) (by have := may_vars_len h1; omega)
  have y0 : w1.cell? ⟨w.heap.size, 0, none⟩ = some (.bool t.never) := hz1.cell 0
  have y1 : w1.cell? ⟨w.heap.size, 1, none⟩ = some (.int .u8 t.c) := hz1.cell 1
  have y2 : w1.cell? ⟨w.heap.size, 2, none⟩ = some (.slice A0 n0 c0) := hz1.cell 2
  have Hlm := Lib.hid hlm
  have Hln := Lib.hid hln
  have Hq1 := Lib.hid hq
  have Hbel := Lib.hid hbel
  have Hr1 := Lib.hid ((Hr0.out.below hb1).more hb1.size)
  clear hlm hln hz1 hbel hq hb1 Hq Hz Ht0 Hr0 Hbx
  go_wp2_with fail
  refine Hq1.out.mono ?_; rintro e w2 ⟨A2, n2, c2, rfl, hr2, hb2⟩
  obtain ⟨L, hL⟩ : ∃ L, leastT t = L := ⟨_, rfl⟩
  rw [hL] at Hlm Hln hr2 ⊢
  have HL := Lib.hid hL
  clear hL Hq1 y0 y1 y2
  have hbel2 := Hbel.out.trans (hb2.mono Hbel.out.size)
  have hr2u := (Hr1.out.below hb2).more hb2.size
  have hbx2 := below_box (w := w2) (Obj.cells #[.bool L.never, .int .u8 L.c, .slice A2 n2 c2] 37)
  have hL2 := blk_new w2 #[.bool L.never, .int .u8 L.c, .slice A2 n2 c2] 37
  have hr3 := (hr2.below hbx2).more hbx2.size
  have hu3 := (hr2u.below hbx2).more hbx2.size
  have hbel3 := hbel2.trans (hbx2.mono hbel2.size)
  have x1 : (w2.alloc (Obj.cells #[.bool L.never, .int .u8 L.c, .slice A2 n2 c2] 37)).cell? ⟨w2.heap.size, 1, none⟩ = some (.int .u8 L.c) := hL2.cell 1
  have hl2 := hr2.len
  have n63 : n2 ≤ 9223372036854775807 := Nat.le_trans hr2.2.1 hr2.2.2
  have hi := isB_c Hlm.out.1.1 Hlm.out.1.2
  have hs := scaleU_no L.c 0 A n cp l _ hu3 hi h2
  have Hs := Lib.hid hs
  have HL2 := Lib.hid hL2
  have Hr3 := Lib.hid hr3
  have Hbel3 := Lib.hid hbel3
  clear hs hL2 hr3 hbel3 hu3 hbx2 hbel2 hr2u hr2 hb2 hi h1 h2 Hr1 Hbel
  go_wp2_with fail
  refine Hs.out.mono ?_; rintro e w4 ⟨A4, n4, c4, rfl, hu4, hb4⟩
  have hL4 := HL2.out.below hb4 HL2.out.lt
  have hr4 := (Hr3.out.below hb4).more hb4.size
  have hbel4 := Hbel3.out.trans (hb4.mono Hbel3.out.size)
  have v2 : w4.cell? ⟨w2.heap.size, 2, none⟩ = some (.slice A2 n2 c2) := hL4.cell 2
  have Hu4 := Lib.hid hu4
  have Hr4 := Lib.hid hr4
  have Hbel4 := Lib.hid hbel4
  clear hL4 hr4 hbel4 hu4 hb4 Hs HL2 Hr3 Hbel3
  go_wp2_with fail
  go_loopg [7, 8, 27] n2 (fun gh o er i wr => ∃ k : Nat, k ≤ n2 ∧ gh = n2 - k ∧ i = .int .i64 k ∧ o = .slice A4 n4 c4 ∧ er = .int .i64 2 ∧ w4 = wr)
  case atStart => exact ⟨0, Nat.zero_le _, rfl, rfl, rfl, rfl, rfl⟩
  case round =>
    obtain ⟨k, hk, rfl, rfl, rfl, rfl, rfl⟩ := hrel
    by_cases hkn : k < n2
    · obtain ⟨b, o, q, hb, hc⟩ := Hr4.out.at_ (by omega)
      subst q
      have v0 := hc k (by omega)
      have k1 : (0 : Int) ≤ (k : Int) := by omega
      have k2 : (k : Int) < n2 := by omega
      clear hc
      go_wp2_with fail
      go_roundg (n2 - (k + 1))
      case measure => omega
      case rel => exact ⟨k + 1, by omega, rfl, by go_num, rfl, rfl, rfl⟩
    · go_wp2_with fail
      exact bodyPost_ret (v := .tuple #[.slice A4 n4 c4, .int .i64 2]) (by simp [results, Try.results21, go_sem]) rfl ⟨A4, n4, c4, rfl, Hu4.out, Hbel4.out⟩
set_option maxHeartbeats 2000000 in
theorem times_yes (A0 : Option Addr) (n0 c0 : Nat) (t : TermD) (A : Option Addr) (n cp : Nat) (l : List UseD) (w : World) (ht : RdI .i64 w w.heap.size A0 n0 c0 t.vars) (hr : UsesV w w.heap.size A n cp l) (h1 : mayB t = true) (h2 : mayU l = true) :
    Calls Try.prog 21 #[.agg #[.bool t.never, .int .u8 t.c, .slice A0 n0 c0], .slice A n cp] w (RetUE (timesU t l) 0 w) := by
  have hbx := below_box (w := w) (Obj.cells #[.bool t.never, .int .u8 t.c, .slice A0 n0 c0] 37)
  have hz := blk_new w #[.bool t.never, .int .u8 t.c, .slice A0 n0 c0] 37
  have ht0 := (ht.below hbx).more hbx.size
  have hr0 := (hr.below hbx).more hbx.size
  have hq := may_any (.agg #[.bool t.never, .int .u8 t.c, .slice A0 n0 c0]) t _ _ ⟨A0, n0, c0, rfl, ht0⟩ (Nat.le_refl _)
  have z0 : (w.alloc (Obj.cells #[.bool t.never, .int .u8 t.c, .slice A0 n0 c0] 37)).cell? ⟨w.heap.size, 0, none⟩ = some (.bool t.never) := hz.cell 0
  have z1 : (w.alloc (Obj.cells #[.bool t.never, .int .u8 t.c, .slice A0 n0 c0] 37)).cell? ⟨w.heap.size, 1, none⟩ = some (.int .u8 t.c) := hz.cell 1
  have z2 : (w.alloc (Obj.cells #[.bool t.never, .int .u8 t.c, .slice A0 n0 c0] 37)).cell? ⟨w.heap.size, 2, none⟩ = some (.slice A0 n0 c0) := hz.cell 2
  rw [mayE_yes h1] at hq
  have HT : Hid (timesU t l = (leastT t).vars.foldl (fun o v => scaleU 0 v o) (scaleU (leastT t).c 0 l)) := Lib.hid rfl
  have Hgood := Lib.hid (good_of h2)
  have Hq := Lib.hid hq
  have Hbx := Lib.hid hbx
  have Hz := Lib.hid hz
  have Ht0 := Lib.hid ht0
  have Hr0 := Lib.hid hr0
  clear hq hbx hz ht0 hr0 ht hr
  go_enter Try.func21, Try.ntmps21
  go_wp2_with fail
  refine Hq.out.mono ?_; rintro e w1 ⟨rfl, hb1⟩
  have hlm := least_may h1
  have hln : (leastT t).vars.length ≤ 1048576 := by
    have h2 := may_vars_len h1
    unfold leastT
    split
    · simp
    · exact h2
  have hz1 := Hz.out.below hb1 Hz.out.lt
  have hbel := Hbx.out.trans (hb1.mono Hbx.out.size)
  have hq := least_any_t (.agg #[.bool t.never, .int .u8 t.c, .slice A0 n0 c0]) t w1 _ ⟨A0, n0, c0, rfl, (Ht0.out.below hb1).more hb1.size⟩ (Nat.le_refl _) (by have := may_vars_len h1; omega)
  have y0 : w1.cell? ⟨w.heap.size, 0, none⟩ = some (.bool t.never) := hz1.cell 0
  have y1 : w1.cell? ⟨w.heap.size, 1, none⟩ = some (.int .u8 t.c) := hz1.cell 1
  have y2 : w1.cell? ⟨w.heap.size, 2, none⟩ = some (.slice A0 n0 c0) := hz1.cell 2
  have Hlm := Lib.hid hlm
  have Hln := Lib.hid hln
  have Hq1 := Lib.hid hq
  have Hbel := Lib.hid hbel
  have Hr1 := Lib.hid ((Hr0.out.below hb1).more hb1.size)
  clear hlm hln hz1 hbel hq hb1 Hq Hz Ht0 Hr0 Hbx
  go_wp2_with fail
  refine Hq1.out.mono ?_; rintro e w2 ⟨A2, n2, c2, rfl, hr2, hb2⟩
  obtain ⟨L, hL⟩ : ∃ L, leastT t = L := ⟨_, rfl⟩
  rw [hL] at Hlm Hln hr2 HT ⊢
  have HL := Lib.hid hL
  clear hL Hq1 y0 y1 y2
  have hbel2 := Hbel.out.trans (hb2.mono Hbel.out.size)
  have hr2u := (Hr1.out.below hb2).more hb2.size
  have hbx2 := below_box (w := w2) (Obj.cells #[.bool L.never, .int .u8 L.c, .slice A2 n2 c2] 37)
  have hL2 := blk_new w2 #[.bool L.never, .int .u8 L.c, .slice A2 n2 c2] 37
  have hr3 := (hr2.below hbx2).more hbx2.size
  have hu3 := (hr2u.below hbx2).more hbx2.size
  have hbel3 := hbel2.trans (hbx2.mono hbel2.size)
  have x1 : (w2.alloc (Obj.cells #[.bool L.never, .int .u8 L.c, .slice A2 n2 c2] 37)).cell? ⟨w2.heap.size, 1, none⟩ = some (.int .u8 L.c) := hL2.cell 1
  have hl2 := hr2.len
  have n63 : n2 ≤ 9223372036854775807 := Nat.le_trans hr2.2.1 hr2.2.2
  have hi := isB_c Hlm.out.1.1 Hlm.out.1.2
  have hs := scaleU_yes L.c 0 A n cp l _ hu3 hi h2
  have hg0 := scaleU_good Hgood.out hi
  obtain ⟨l0, hl0⟩ : ∃ l0, scaleU L.c 0 l = l0 := ⟨_, rfl⟩
  rw [hl0] at hs hg0 HT
  have Hs := Lib.hid hs
  have Hg0 := Lib.hid hg0
  have HL2 := Lib.hid hL2
  have Hr3 := Lib.hid hr3
  have Hbel3 := Lib.hid hbel3
  clear hs hg0 hl0 hL2 hr3 hbel3 hu3 hbx2 hbel2 hr2u hr2 hb2 hi h1 h2 Hr1 Hbel Hgood
  go_wp2_with fail
  refine Hs.out.mono ?_; rintro e w4 ⟨A4, n4, c4, rfl, hu4, hb4⟩
  have hL4 := HL2.out.below hb4 HL2.out.lt
  have hr4 := (Hr3.out.below hb4).more hb4.size
  have hbel4 := Hbel3.out.trans (hb4.mono Hbel3.out.size)
  have v2 : w4.cell? ⟨w2.heap.size, 2, none⟩ = some (.slice A2 n2 c2) := hL4.cell 2
  have Hu4 := Lib.hid hu4
  have Hr4 := Lib.hid hr4
  have Hbel4 := Lib.hid hbel4
  clear hL4 hr4 hbel4 hu4 hb4 Hs HL2 Hr3 Hbel3
  go_wp2_with fail
  go_loopg [7, 8, 27] n2 (fun gh o er i wr => ∃ (k : Nat) (A5 : Option Addr) (n5 c5 : Nat), k ≤ n2 ∧ gh = n2 - k ∧ i = .int .i64 k ∧ o = .slice A5 n5 c5 ∧ er = .int .i64 0 ∧ Hid (UsesV wr wr.heap.size A5 n5 c5 ((L.vars.take k).foldl (fun o v => scaleU 0 v o) l0)) ∧ Below w4.heap.size w4 wr)
  case atStart => exact ⟨0, A4, n4, c4, Nat.zero_le _, rfl, rfl, rfl, rfl, Hu4, Below.refl _ _⟩
  case round =>
    obtain ⟨k, A5, n5, c5, hk, rfl, rfl, rfl, rfl, Hu5, hb5⟩ := hrel
    by_cases hkn : k < n2
    · obtain ⟨b, o, q, hb, hc⟩ := (Hr4.out.below hb5).at_ (by omega)
      subst q
      have hk' : k < L.vars.length := by omega
      have v0 := hc k hk'
      have hvr := Hlm.out.2 _ (List.getElem_mem hk')
      have hg5 : Good ((L.vars.take k).foldl (fun o v => scaleU 0 v o) l0) := fold_good _ _ Hg0.out fun v hv => Hlm.out.2 v (List.mem_of_mem_take hv)
      have hs := scaleU_yes 0 L.vars[k] A5 n5 c5 _ wr Hu5.out (isB_v hvr.1 hvr.2) hg5.mayU
      have hst : (L.vars.take (k + 1)).foldl (fun o v => scaleU 0 v o) l0 = scaleU 0 L.vars[k] ((L.vars.take k).foldl (fun o v => scaleU 0 v o) l0) := by
        rw [List.take_succ_eq_append_getElem hk', fold_snoc]
      have Hs := Lib.hid hs
      have Hst := Lib.hid hst
      have Hb5 := Lib.hid hb5
      have k1 : (0 : Int) ≤ (k : Int) := by omega
      have k2 : (k : Int) < n2 := by omega
      clear hc hs hst hb5 hg5 hvr Hu5
      go_wp2_with fail
      refine Hs.out.mono ?_; rintro e w6 ⟨A6, n6, c6, rfl, hu6, hb6⟩
      have Hu6 := Lib.hid hu6
      have hbel6 := Hb5.out.trans (hb6.mono Hb5.out.size)
      rw [← Hst.out] at Hu6
      clear hu6 hb6 Hs
      go_wp2_with fail
      go_roundg (n2 - (k + 1))
      case measure => omega
      case rel => exact ⟨k + 1, A6, n6, c6, by omega, rfl, by go_num, rfl, rfl, Hu6, hbel6⟩
    · have hkn' : k = n2 := by omega
      subst hkn'
      have hu5 := Hu5.out
      rw [List.take_of_length_le (show L.vars.length ≤ k by omega)] at hu5
      have Hu : Hid (UsesV wr wr.heap.size A5 n5 c5 (timesU t l)) := Lib.hid (by rw [HT.out]; exact hu5)
      have hbel6 := Hbel4.out.trans (hb5.mono Hbel4.out.size)
      clear hu5 Hu5 hb5
      go_wp2_with fail
      exact bodyPost_ret (v := .tuple #[.slice A5 n5 c5, .int .i64 0]) (by simp [results, Try.results21, go_sem]) rfl ⟨A5, n5, c5, rfl, Hu.out, hbel6⟩

end Go.Proofs.Ytimlbpjdgnapoaa

