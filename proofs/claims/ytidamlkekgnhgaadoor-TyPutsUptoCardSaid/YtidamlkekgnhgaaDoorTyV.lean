/- Variables of types, numberings; laws of what is put and turned. No program's function. -/
import Derived.Test.YtidamlkekgnhgaaDoorTyX
namespace Go.Proofs.YtidamlkekgnhgaaDoor
set_option linter.unusedVariables false
set_option linter.unusedSimpArgs false
open Go.RowKit

theorem ty_ind {P : TyD → Prop} (h : ∀ t, (∀ x ∈ t.l, P x) → P t) (t : TyD) : P t := by
  have : ∀ (N : Nat) (t : TyD), nodes t ≤ N → P t := by
    intro N
    induction N with
    | zero => intro t hN; rw [nodes_eq t] at hN; omega
    | succ N ih => exact fun t hN => h t fun x hx => ih x (by have := nodes_mem hx; rw [nodes_eq t] at hN; omega)
  exact this _ t (Nat.le_refl _)

/-! ### the variables, in order -/
def allV : TyD → List Int
  | .mk k n v c l => (if k = 1 then [n] else []) ++ go l
where go : List TyD → List Int
  | [] => []
  | t :: r => allV t ++ go r
theorem allV_go (l : List TyD) : allV.go l = l.flatMap allV := by
  induction l with
  | nil => rfl
  | cons t r ih => rw [allV.go, List.flatMap_cons, ih]
theorem allV_eq (t : TyD) : allV t = (if t.k = 1 then [t.n] else []) ++ t.l.flatMap allV := by
  cases t; rw [allV, allV_go]; rfl
/-- the multiplicities' variables -/
def allM : TyD → List Int
  | .mk k n v c l => go (decide (k = 7) && decide (c = 0)) v 0 l
where go (f : Bool) (v : Int) : Nat → List TyD → List Int
  | _, [] => []
  | i, t :: r => ((if f && decide (i = 1) then [v] else []) ++ allM t) ++ go f v (i + 1) r
theorem allM_eq (t : TyD) : allM t = allM.go (decide (t.k = 7) && decide (t.c = 0)) t.v 0 t.l := by
  cases t; rw [allM]; rfl
theorem allM_plain (v : Int) : ∀ (i : Nat) (l : List TyD), allM.go false v i l = l.flatMap allM
  | _, [] => by rw [allM.go]; rfl
  | i, t :: r => by rw [allM.go, allM_plain v (i + 1) r, List.flatMap_cons]; rfl
theorem allM_snoc (f : Bool) (v : Int) : ∀ (i : Nat) (a : List TyD) (t : TyD), allM.go f v i (a ++ [t]) = allM.go f v i a ++ ((if f && decide (i + a.length = 1) then [v] else []) ++ allM t)
  | i, [], t => by simp [allM.go]
  | i, x :: a, t => by
    rw [List.cons_append, allM.go, allM_snoc f v (i + 1) a t, allM.go, List.length_cons, show i + 1 + a.length = i + (a.length + 1) from by omega]
    simp only [List.append_assoc]
/-- one more number, if it is none of them -/
def addN (l : List Int) (n : Int) : List Int := if l.contains n then l else l ++ [n]
def addAll (l xs : List Int) : List Int := xs.foldl addN l
def varsT (t : TyD) : List Int := addAll [] (allV t)
def multsT (t : TyD) : List Int := addAll [] (allM t)
theorem addAll_append (l a b : List Int) : addAll l (a ++ b) = addAll (addAll l a) b := by unfold addAll; rw [List.foldl_append]
theorem addN_mem {l : List Int} {n x : Int} : x ∈ addN l n ↔ x ∈ l ∨ x = n := by
  unfold addN
  split
  · rename_i h
    rw [List.contains_iff_mem] at h
    constructor
    · exact .inl
    · rintro (h2 | rfl)
      · exact h2
      · exact h
  · simp
theorem addAll_mem {xs : List Int} : ∀ {l : List Int} {x : Int}, x ∈ addAll l xs ↔ x ∈ l ∨ x ∈ xs := by
  induction xs with
  | nil => intro l x; simp [addAll]
  | cons a xs ih =>
    intro l x
    show x ∈ addAll (addN l a) xs ↔ _
    rw [ih, addN_mem, List.mem_cons, or_assoc]
theorem addN_nodup {l : List Int} {n : Int} (h : l.Nodup) : (addN l n).Nodup := by
  unfold addN
  split
  · exact h
  · rename_i h2
    rw [List.contains_iff_mem] at h2
    rw [List.nodup_append]
    exact ⟨h, by simp, fun a ha b hb => by rw [List.mem_singleton] at hb; subst hb; rintro rfl; exact h2 ha⟩
theorem addAll_nodup {xs : List Int} : ∀ {l : List Int}, l.Nodup → (addAll l xs).Nodup := by
  induction xs with
  | nil => intro l h; exact h
  | cons a xs ih => intro l h; exact ih (addN_nodup h)
theorem addN_len (l : List Int) (n : Int) : (addN l n).length ≤ l.length + 1 := by unfold addN; split <;> simp
theorem addAll_len (xs : List Int) : ∀ (l : List Int), (addAll l xs).length ≤ l.length + xs.length := by
  induction xs with
  | nil => intro l; exact Nat.le_refl _
  | cons a xs ih =>
    intro l
    have h1 := ih (addN l a)
    have h2 := addN_len l a
    show (addAll (addN l a) xs).length ≤ _
    rw [List.length_cons]
    omega
theorem addAll_map {h : Int → Int} {S : Int → Prop} (hinj : ∀ a b, S a → S b → h a = h b → a = b) : ∀ (xs l : List Int), (∀ x ∈ xs, S x) → (∀ x ∈ l, S x) → addAll (l.map h) (xs.map h) = (addAll l xs).map h := by
  intro xs
  induction xs with
  | nil => intro l _ _; rfl
  | cons a xs ih =>
    intro l hx hl
    have ha := hx a (by simp)
    have e : addN (l.map h) (h a) = (addN l a).map h := by
      unfold addN
      by_cases hm : a ∈ l
      · rw [if_pos (List.contains_iff_mem.2 hm), if_pos (List.contains_iff_mem.2 (List.mem_map.2 ⟨a, hm, rfl⟩))]
      · rw [if_neg (fun h => hm (List.contains_iff_mem.1 h)), if_neg, List.map_append]; rfl
        intro h2
        obtain ⟨b, hb, e⟩ := List.mem_map.1 (List.contains_iff_mem.1 h2)
        exact hm (by rw [← hinj b a (hl b hb) ha e]; exact hb)
    show addAll (addN (l.map h) (h a)) (xs.map h) = (addAll (addN l a) xs).map h
    rw [e]
    refine ih (addN l a) (fun x hx' => hx x (List.mem_cons_of_mem _ hx')) fun x hx' => ?_
    rcases addN_mem.1 hx' with h | rfl
    · exact hl x h
    · exact ha

/-! ### where a number stands -/
def idxN (l : List Int) (n : Int) : Int := match l.findIdx? (· == n) with
  | some i => i
  | none => -1
theorem idxN_some {l : List Int} {i : Nat} (h : i < l.length) (hnd : l.Nodup) : idxN l l[i] = i := by
  have : l.findIdx? (· == l[i]) = some i := List.findIdx?_eq_some_iff_getElem.2 ⟨h, by simp, fun j hj => by
    simp only [beq_iff_eq, Bool.not_eq_true, beq_eq_false_iff_ne, ne_eq]
    intro e
    have := (List.getElem_inj hnd).1 e
    omega⟩
  unfold idxN
  rw [this]
theorem idxN_mem {l : List Int} {n : Int} (h : n ∈ l) : ∃ i, ∃ hi : i < l.length, idxN l n = i ∧ l[i] = n := by
  unfold idxN
  cases e : l.findIdx? (· == n) with
  | none =>
    rw [List.findIdx?_eq_none_iff] at e
    have := e n h
    simp at this
  | some i =>
    obtain ⟨hi, hp, _⟩ := List.findIdx?_eq_some_iff_getElem.1 e
    exact ⟨i, hi, rfl, by simpa using hp⟩
theorem idxN_inj {l : List Int} {a b : Int} (ha : a ∈ l) (hb : b ∈ l) (h : idxN l a = idxN l b) : a = b := by
  obtain ⟨i, hi, e1, e2⟩ := idxN_mem ha
  obtain ⟨j, hj, e3, e4⟩ := idxN_mem hb
  rw [e1, e3] at h
  obtain rfl : i = j := by omega
  rw [← e2, e4]
theorem idxN_map {h : Int → Int} {S : Int → Prop} (hinj : ∀ a b, S a → S b → h a = h b → a = b) {l : List Int} (hl : ∀ x ∈ l, S x) {n : Int} (hn : n ∈ l) (hnd : l.Nodup) : idxN (l.map h) (h n) = idxN l n := by
  obtain ⟨i, hi, e1, e2⟩ := idxN_mem hn
  rw [e1]
  have hnd2 : (l.map h).Nodup := by
    unfold List.Nodup at hnd ⊢
    rw [List.pairwise_map]
    exact hnd.imp_of_mem fun ha hb hne e => hne (hinj _ _ (hl _ ha) (hl _ hb) e)
  have := idxN_some (l := l.map h) (i := i) (by simpa using hi) hnd2
  rw [List.getElem_map, e2] at this
  exact this
theorem idx_range {l : List Int} (hnd : l.Nodup) : l.map (idxN l) = (List.range l.length).map (fun i : Nat => (i : Int)) := by
  refine List.ext_getElem (by simp) fun i h1 h2 => ?_
  simp only [List.length_map] at h1
  rw [List.getElem_map, List.getElem_map, idxN_some h1 hnd, List.getElem_range]
theorem idxN_range {n : Nat} {i : Nat} (h : i < n) : idxN ((List.range n).map (fun i : Nat => (i : Int))) i = i := by
  have hnd : ((List.range n).map (fun i : Nat => (i : Int))).Nodup := by
    have := List.nodup_range (n := n)
    unfold List.Nodup at this ⊢
    rw [List.pairwise_map]
    exact this.imp fun h e => h (by omega)
  have := idxN_some (l := (List.range n).map (fun i : Nat => (i : Int))) (i := i) (by simpa using h) hnd
  rw [List.getElem_map, List.getElem_range] at this
  exact this

/-! ### what is turned -/
section
variable {fv fv' : Int → Option TyD} {fm fm' : Int → Int × Int}
def plainV (n : Int) : TyD := .mk 1 n 0 0 []
theorem may_var {t : TyD} (h : mayT t = true) (hk : t.k = 1) : t = plainV t.n := by
  have p := may_plain h (by omega)
  exact ty_ext hk rfl p.1 p.2 (may_leaf h (by omega))
theorem turnT_mk (fv : Int → Option TyD) (fm : Int → Int × Int) (k n v c : Int) (l : List TyD) : turnT fv fm (.mk k n v c l) = if k = 1 then (fv n).getD (.mk k n v c l) else .mk k n (if k = 7 ∧ c = 0 then (fm v).1 else v) (if k = 7 ∧ c = 0 then (fm v).2 else c) (l.map (turnT fv fm)) := turnT_eq fv fm (.mk k n v c l)
/-- turned twice -/
theorem turn_turn (fv fv' : Int → Option TyD) (fm fm' : Int → Int × Int) (t : TyD) : turnT fv' fm' (turnT fv fm t) = turnT (fun n => match fv n with
    | some u => some (turnT fv' fm' u)
    | none => fv' n) (fun v => if (fm v).2 = 0 then fm' (fm v).1 else fm v) t := by
  induction t using ty_ind with
  | h t ih =>
    obtain ⟨k, n, v, c, l⟩ := t
    simp only [TyD.l] at ih
    rw [turnT_mk fv fm k n v c l, turnT_mk _ _ k n v c l]
    by_cases hk : k = 1
    · rw [if_pos hk, if_pos hk]
      cases h : fv n with
      | some u => rfl
      | none =>
        show turnT fv' fm' (.mk k n v c l) = (fv' n).getD (.mk k n v c l)
        rw [turnT_mk, if_pos hk]
    · rw [if_neg hk, if_neg hk, turnT_mk, if_neg hk, List.map_map]
      have hl : l.map (turnT fv' fm' ∘ turnT fv fm) = l.map (turnT (fun n => match fv n with
    | some u => some (turnT fv' fm' u)
    | none => fv' n) (fun v => if (fm v).2 = 0 then fm' (fm v).1 else fm v)) := List.map_congr_left fun x hx => ih x hx
      rw [hl]
      by_cases h7 : k = 7
      · by_cases hc : c = 0
        · by_cases hz : (fm v).2 = 0
          · simp [h7, hc, hz]
          · simp [h7, hc, hz]
        · simp [h7, hc]
      · simp [h7]
theorem allV_kid {t x : TyD} (hx : x ∈ t.l) {n : Int} (hn : n ∈ allV x) : n ∈ allV t := by
  rw [allV_eq]
  exact List.mem_append.2 (.inr (List.mem_flatMap.2 ⟨x, hx, hn⟩))
theorem allM_fun {t a b : TyD} (hk : t.k = 7) (hl : t.l = [a, b]) : allM t = allM a ++ (if t.c = 0 then [t.v] else []) ++ allM b := by
  rw [allM_eq, hl, hk]
  simp only [allM.go, decide_true, Bool.true_and]
  by_cases hc : t.c = 0 <;> simp [hc]
theorem allM_not {t : TyD} (hk : t.k ≠ 7) : allM t = t.l.flatMap allM := by
  rw [allM_eq, decide_eq_false hk, Bool.false_and, allM_plain]
theorem allM_kid {t x : TyD} (ht : mayT t = true) (hx : x ∈ t.l) {n : Int} (hn : n ∈ allM x) : n ∈ allM t := by
  by_cases hk : t.k = 7
  · obtain ⟨a, b, hl⟩ := may_fun ht hk
    rw [allM_fun hk hl]
    rw [hl] at hx
    simp only [List.mem_cons, List.not_mem_nil, or_false] at hx
    rcases hx with rfl | rfl
    · simp [hn]
    · simp [hn]
  · rw [allM_not hk]
    exact List.mem_flatMap.2 ⟨x, hx, hn⟩
theorem allM_own {t : TyD} (ht : mayT t = true) (hk : t.k = 7) (hc : t.c = 0) : t.v ∈ allM t := by
  obtain ⟨a, b, hl⟩ := may_fun ht hk
  rw [allM_fun hk hl, if_pos hc]
  simp
theorem allM_nonneg {t : TyD} (ht : mayT t = true) : ∀ v ∈ allM t, 0 ≤ v ∧ v < 1048576 := by
  revert ht
  induction t using ty_ind with
  | h t ih =>
    intro ht v hv
    have f := may_facts ht
    by_cases hk : t.k = 7
    · obtain ⟨a, b, hl⟩ := may_fun ht hk
      rw [allM_fun hk hl] at hv
      simp only [List.mem_append] at hv
      rcases hv with (hv | hv) | hv
      · exact ih a (by rw [hl]; simp) (f.2.2.2.2.2.2 a (by rw [hl]; simp)) v hv
      · split at hv
        · rename_i hc
          rw [List.mem_singleton] at hv
          subst hv
          have := may_mu ht
          unfold isB oneB at this
          rw [hc] at this
          simpa using this
        · simp at hv
      · exact ih b (by rw [hl]; simp) (f.2.2.2.2.2.2 b (by rw [hl]; simp)) v hv
    · rw [allM_not hk] at hv
      obtain ⟨x, hx, hv⟩ := List.mem_flatMap.1 hv
      exact ih x hx (f.2.2.2.2.2.2 x hx) v hv
theorem allV_nonneg {t : TyD} (ht : mayT t = true) : ∀ v ∈ allV t, 0 ≤ v ∧ v < 1048576 := by
  revert ht
  induction t using ty_ind with
  | h t ih =>
    intro ht v hv
    have f := may_facts ht
    rw [allV_eq] at hv
    rcases List.mem_append.1 hv with hv | hv
    · split at hv
      · rename_i hk
        rw [List.mem_singleton] at hv
        subst hv
        have := f.2.2.2.1
        rw [hk] at this
        exact ⟨f.2.2.1, this⟩
      · simp at hv
    · obtain ⟨x, hx, hv⟩ := List.mem_flatMap.1 hv
      exact ih x hx (f.2.2.2.2.2.2 x hx) v hv
/-- turning looks at the variables alone -/
theorem turn_congr {t : TyD} (ht : mayT t = true) (hv : ∀ n ∈ allV t, (fv n).getD (plainV n) = (fv' n).getD (plainV n)) (hm : ∀ v ∈ allM t, fm v = fm' v) : turnT fv fm t = turnT fv' fm' t := by
  revert ht hv hm
  induction t using ty_ind with
  | h t ih =>
    intro ht hv hm
    rw [turnT_eq fv fm, turnT_eq fv' fm']
    by_cases hk : t.k = 1
    · rw [if_pos hk, if_pos hk]
      have := hv t.n (by rw [allV_eq, if_pos hk]; simp)
      rw [← may_var ht hk] at this
      exact this
    · rw [if_neg hk, if_neg hk]
      have f := may_facts ht
      have hl : t.l.map (turnT fv fm) = t.l.map (turnT fv' fm') := List.map_congr_left fun x hx => ih x hx (f.2.2.2.2.2.2 x hx) (fun n hn => hv n (allV_kid hx hn)) (fun v hv => hm v (allM_kid ht hx hv))
      rw [hl]
      by_cases h : t.k = 7 ∧ t.c = 0
      · rw [if_pos h, if_pos h, if_pos h, if_pos h, hm t.v (allM_own ht h.1 h.2)]
      · rw [if_neg h, if_neg h, if_neg h, if_neg h]
/-- what is turned to itself -/
theorem turn_id {t : TyD} (ht : mayT t = true) (hv : ∀ n ∈ allV t, (fv n).getD (plainV n) = plainV n) (hm : ∀ v ∈ allM t, fm v = (v, 0)) : turnT fv fm t = t := by
  revert ht hv hm
  induction t using ty_ind with
  | h t ih =>
    intro ht hv hm
    rw [turnT_eq fv fm]
    by_cases hk : t.k = 1
    · rw [if_pos hk]
      have := hv t.n (by rw [allV_eq, if_pos hk]; simp)
      rw [← may_var ht hk] at this
      exact this
    · rw [if_neg hk]
      have f := may_facts ht
      have hl : t.l.map (turnT fv fm) = t.l := by
        conv => rhs; rw [← List.map_id t.l]
        exact List.map_congr_left fun x hx => ih x hx (f.2.2.2.2.2.2 x hx) (fun n hn => hv n (allV_kid hx hn)) (fun v hv => hm v (allM_kid ht hx hv))
      rw [hl]
      by_cases h : t.k = 7 ∧ t.c = 0
      · rw [if_pos h, if_pos h, hm t.v (allM_own ht h.1 h.2)]
        exact ty_ext rfl rfl rfl h.2.symm rfl
      · rw [if_neg h, if_neg h]
        exact t.eta.symm
/-- a node is one by its parts -/
theorem may_mk {k n v c : Int} {l : List TyD} (h1 : 1 ≤ k) (h2 : k ≤ 8) (h3 : 0 ≤ n) (h4 : n < mostI k) (h5 : 0 ≤ kidsI k → (l.length : Int) = kidsI k) (h6 : (l.length : Int) ≤ 4) (h7 : (v = 0 ∧ c = 0) ∨ (k = 7 ∧ isB c v = true)) (h8 : ∀ x ∈ l, mayT x = true) : mayT (.mk k n v c l) = true := by
  rw [mayT_eq, Bool.and_eq_true]
  refine ⟨?_, List.all_eq_true.2 h8⟩
  unfold isN
  simp only [Bool.and_eq_true, Bool.or_eq_true, Bool.not_eq_true', Bool.and_eq_false_iff, Bool.not_eq_false', decide_eq_true_eq, decide_eq_false_iff_not]
  refine ⟨⟨⟨⟨⟨⟨h1, h2⟩, h3⟩, h4⟩, ?_⟩, h6⟩, h7⟩
  by_cases h : 0 ≤ kidsI k
  · exact .inr (h5 h)
  · exact .inl h
/-- what is turned may be -/
theorem turn_may {t : TyD} (ht : mayT t = true) (hv : ∀ n ∈ allV t, ∀ u, fv n = some u → mayT u = true) (hm : ∀ v ∈ allM t, isB (fm v).2 (fm v).1 = true) : mayT (turnT fv fm t) = true := by
  revert ht hv hm
  induction t using ty_ind with
  | h t ih =>
    intro ht hv hm
    have f := may_facts ht
    rw [turnT_eq fv fm]
    by_cases hk : t.k = 1
    · rw [if_pos hk]
      cases e : fv t.n with
      | none => exact ht
      | some u => exact hv t.n (by rw [allV_eq, if_pos hk]; simp) u e
    · rw [if_neg hk]
      have hlen := mayT_len ht
      refine may_mk f.1 f.2.1 f.2.2.1 f.2.2.2.1 (by rw [List.length_map]; exact f.2.2.2.2.1) (by rw [List.length_map]; omega) ?_ ?_
      · by_cases h : t.k = 7 ∧ t.c = 0
        · rw [if_pos h, if_pos h]
          exact .inr ⟨h.1, hm t.v (allM_own ht h.1 h.2)⟩
        · rw [if_neg h, if_neg h]
          exact f.2.2.2.2.2.1
      · intro y hy
        obtain ⟨x, hx, rfl⟩ := List.mem_map.1 hy
        exact ih x hx (f.2.2.2.2.2.2 x hx) (fun n hn => hv n (allV_kid hx hn)) (fun v hv => hm v (allM_kid ht hx hv))
/-- how many nodes there are with others of so many at the variables -/
theorem nodesL_map_congr {f g : TyD → TyD} : ∀ {l : List TyD}, (∀ x ∈ l, nodes (f x) = nodes (g x)) → nodes.nodesL (l.map f) = nodes.nodesL (l.map g)
  | [], _ => rfl
  | x :: l, h => by
    rw [List.map_cons, List.map_cons, nodes.nodesL, nodes.nodesL, h x (by simp), nodesL_map_congr fun y hy => h y (List.mem_cons_of_mem _ hy)]
theorem grown_nodes {sz : List Int} {t : TyD} (h0 : ∀ n ∈ allV t, 0 ≤ n) (h : ∀ n ∈ allV t, (if n < sz.length then sz.getD n.toNat 0 else 1) = (((fv n).map nodes).getD 1 : Nat)) (ht : mayT t = true) : grownN sz t = nodes (turnT fv fm t) := by
  revert ht h0 h
  induction t using ty_ind with
  | h t ih =>
    intro h0 h ht
    have f := may_facts ht
    rw [grownN_eq, turnT_eq]
    by_cases hk : t.k = 1
    · have h2 := h t.n (by rw [allV_eq, if_pos hk]; simp)
      rw [if_pos hk]
      have hl := may_leaf ht (by omega)
      have n1 : nodes t = 1 := by rw [nodes_eq, hl]; rfl
      by_cases hn : t.n < sz.length
      · rw [if_pos ⟨hk, hn⟩]
        rw [if_pos hn] at h2
        rw [h2]
        cases fv t.n with
        | none => rw [Option.getD_none, n1]; rfl
        | some u => rfl
      · rw [if_neg (fun e => hn e.2)]
        rw [if_neg hn] at h2
        rw [hl]
        cases e : fv t.n with
        | none => rw [Option.getD_none, n1]; rfl
        | some u => rw [e] at h2; exact h2
    · rw [if_neg (fun e => hk e.1), if_neg hk, nodes_eq]
      have key : ∀ l : List TyD, (∀ x ∈ l, x ∈ t.l) → grownN.grownL sz l = nodes.nodesL (l.map (turnT fv fm)) := by
        intro l
        induction l with
        | nil => intro _; rfl
        | cons x l ihl =>
          intro hl
          have hx := hl x (by simp)
          rw [grownN.grownL, List.map_cons, nodes.nodesL, ihl (fun y hy => hl y (List.mem_cons_of_mem _ hy)), ih x hx (fun n hn => h0 n (allV_kid hx hn)) (fun n hn => h n (allV_kid hx hn)) (f.2.2.2.2.2.2 x hx)]
          push_cast
          rfl
      rw [key t.l (fun _ h => h)]
      show (1 : Int) + _ = ((1 + _ : Nat) : Int)
      push_cast
      rfl
/-- what stands at a variable is no more than the whole -/
theorem turn_sub {t u : TyD} {n : Int} (ht : mayT t = true) (hn : n ∈ allV t) (hu : fv n = some u) : nodes u ≤ nodes (turnT fv fm t) := by
  revert ht hn
  induction t using ty_ind with
  | h t ih =>
    intro ht hn
    have f := may_facts ht
    rw [turnT_eq]
    rw [allV_eq] at hn
    by_cases hk : t.k = 1
    · rw [if_pos hk, may_leaf ht (by omega)] at hn
      simp only [List.flatMap_nil, List.append_nil, List.mem_singleton] at hn
      rw [if_pos hk, ← hn, hu]
      exact Nat.le_refl _
    · rw [if_neg hk, List.nil_append] at hn
      obtain ⟨x, hx, hn⟩ := List.mem_flatMap.1 hn
      rw [if_neg hk, nodes_eq (.mk t.k t.n _ _ _)]
      have h1 := ih x hx (f.2.2.2.2.2.2 x hx) hn
      have h2 := nodes_mem (List.mem_map.2 ⟨x, hx, rfl⟩ : turnT fv fm x ∈ t.l.map (turnT fv fm))
      show _ ≤ 1 + nodes.nodesL (t.l.map (turnT fv fm))
      omega
end
theorem sizeW_small {t : TyD} (h : nodes t < 9223372036854775808) : sizeW t = nodes t := by
  unfold sizeW
  exact IntWalk.wrap64_in _ (by omega)
theorem allV_len {t : TyD} (ht : mayT t = true) : (allV t).length ≤ nodes t := by
  revert ht
  induction t using ty_ind with
  | h t ih =>
    intro ht
    have f := may_facts ht
    have key : ∀ l : List TyD, (∀ x ∈ l, x ∈ t.l) → (l.flatMap allV).length ≤ nodes.nodesL l := by
      intro l
      induction l with
      | nil => intro _; simp
      | cons x l ihl =>
        intro hl
        rw [List.flatMap_cons, List.length_append, nodes.nodesL]
        have h1 := ih x (hl x (by simp)) (f.2.2.2.2.2.2 x (hl x (by simp)))
        have h2 := ihl (fun y hy => hl y (List.mem_cons_of_mem _ hy))
        omega
    rw [allV_eq, nodes_eq, List.length_append]
    have := key t.l (fun _ h => h)
    by_cases hk : t.k = 1
    · rw [if_pos hk]; simp only [List.length_cons, List.length_nil]; omega
    · rw [if_neg hk]; simp only [List.length_nil]; omega
theorem allM_len {t : TyD} (ht : mayT t = true) : (allM t).length ≤ nodes t := by
  revert ht
  induction t using ty_ind with
  | h t ih =>
    intro ht
    have f := may_facts ht
    by_cases hk : t.k = 7
    · obtain ⟨a, b, hl⟩ := may_fun ht hk
      rw [allM_fun hk hl, nodes_eq, hl]
      have h1 := ih a (by rw [hl]; simp) (f.2.2.2.2.2.2 a (by rw [hl]; simp))
      have h2 := ih b (by rw [hl]; simp) (f.2.2.2.2.2.2 b (by rw [hl]; simp))
      simp only [nodes.nodesL, List.length_append]
      by_cases hc : t.c = 0
      · rw [if_pos hc]; simp only [List.length_cons, List.length_nil]; omega
      · rw [if_neg hc]; simp only [List.length_nil]; omega
    · have key : ∀ l : List TyD, (∀ x ∈ l, x ∈ t.l) → (l.flatMap allM).length ≤ nodes.nodesL l := by
        intro l
        induction l with
        | nil => intro _; simp
        | cons x l ihl =>
          intro hl
          rw [List.flatMap_cons, List.length_append, nodes.nodesL]
          have h1 := ih x (hl x (by simp)) (f.2.2.2.2.2.2 x (hl x (by simp)))
          have h2 := ihl (fun y hy => hl y (List.mem_cons_of_mem _ hy))
          omega
      rw [allM_not hk, nodes_eq]
      have := key t.l (fun _ h => h)
      omega

end Go.Proofs.YtidamlkekgnhgaaDoor
