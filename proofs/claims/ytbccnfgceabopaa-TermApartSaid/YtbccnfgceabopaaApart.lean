/- The plain law of TermApart: two terms that may be are the same just if they are alike where all variables are one, and where each in turn is many. No program's function. -/
import Derived.Test.YtbccnfgceabopaaPlC
namespace Go.Proofs.Ytbccnfgceabopaa
set_option linter.unusedVariables false
set_option linter.unusedSimpArgs false
open Go.RowKit

def alikeB (a b : TermD) (asg : List Int) : Bool := (atR a asg).2 == 0 && (atR b asg).2 == 0 && (atR a asg).1 == (atR b asg).1
def ones (n : Nat) : List Int := List.replicate n 1
def many (n : Nat) (v : Int) : List Int := (ones n).set v.toNat 3

theorem ones_at {n : Nat} {v : Int} (h0 : 0 ≤ v) (h : v < n) : atV (ones n) v = 1 := by
  have hv : v.toNat < n := by omega
  simp [atV, ones, List.getD, hv]
theorem ones_ok {n : Nat} {v : Int} (h0 : 0 ≤ v) (h : v < n) : okV (ones n) v = true := by
  unfold okV oneB
  rw [ones_at h0 h]
  simp [ones]; omega
theorem many_at {n : Nat} {v u : Int} (h0 : 0 ≤ u) (h : u < n) (hv : 0 ≤ v) : atV (many n v) u = if u = v then 3 else 1 := by
  have hu : u.toNat < n := by omega
  unfold atV many ones
  by_cases e : u = v
  · subst e
    rw [if_pos rfl]
    simp [List.getD, hu]
  · rw [if_neg e]
    have : v.toNat ≠ u.toNat := by omega
    simp [List.getD, hu, List.getElem_set, this]
theorem many_ok {n : Nat} {v u : Int} (h0 : 0 ≤ u) (h : u < n) (hv : 0 ≤ v) : okV (many n v) u = true := by
  unfold okV oneB
  rw [many_at h0 h hv]
  simp [many, ones]
  refine ⟨by omega, ?_⟩
  split <;> omega
theorem fine_ones {n : Nat} {t : TermD} (hm : mayB t = true) (hn : ∀ v ∈ t.vars, v < n) : Fine (ones n) t :=
  ⟨hm, fun v hv => ones_ok (by
    rcases (may_iff t).1 hm with h | h
    · rw [h.2.2] at hv; simp at hv
    · exact (h.2.2.2.2.2 v hv).1) (hn v hv)⟩
theorem fine_many {n : Nat} {t : TermD} {v : Int} (hm : mayB t = true) (hn : ∀ v ∈ t.vars, v < n) (hv : 0 ≤ v) : Fine (many n v) t :=
  ⟨hm, fun u hu => many_ok (by
    rcases (may_iff t).1 hm with h | h
    · rw [h.2.2] at hu; simp at hu
    · exact (h.2.2.2.2.2 u hu).1) (hn u hu) hv⟩
theorem alike_fine {a b : TermD} {asg : List Int} (ha : Fine asg a) (hb : Fine asg b) : alikeB a b asg = decide (valT asg a = valT asg b) := by
  unfold alikeB
  rw [fine_at ha, fine_at hb]
  simp
  by_cases h : valT asg a = valT asg b <;> simp [h]
theorem val_ones {n : Nat} {t : TermD} (hm : mayB t = true) (hn : ∀ v ∈ t.vars, v < n) : valT (ones n) t = if t.never then 0 else t.c := by
  unfold valT
  split
  · rfl
  · rename_i h
    rcases (may_iff t).1 hm with h1 | ⟨_, h1, h2, h3, h4, h5⟩
    · exact absurd h1.1 h
    · refine eq_of_le fun k => ?_
      rw [maxV_le]
      constructor
      · exact fun h => h.1
      · intro hk
        refine ⟨hk, fun v hv => ?_⟩
        rw [ones_at (h5 v hv).1 (hn v hv)]
        omega
theorem val_many_in {n : Nat} {t : TermD} {v : Int} (hm : mayB t = true) (hn : ∀ v ∈ t.vars, v < n) (hnv : t.never = false) (hv : v ∈ t.vars) : valT (many n v) t = 3 := by
  have hF := fine_many (v := v) hm hn (by
    rcases (may_iff t).1 hm with h | h
    · rw [h.2.2] at hv; simp at hv
    · exact (h.2.2.2.2.2 v hv).1)
  have hb := fine_val hF hnv
  rcases (may_iff t).1 hm with h1 | ⟨_, h1, h2, h3, h4, h5⟩
  · rw [h1.2.2] at hv; simp at hv
  · have h6 := ((maxV_le (many n v) t.vars t.c _).1 (Int.le_refl _)).2 v hv
    rw [many_at (h5 v hv).1 (hn v hv) (h5 v hv).1, if_pos rfl] at h6
    unfold valT
    rw [hnv]
    simp
    omega
theorem val_many_out {n : Nat} {t : TermD} {v : Int} (hm : mayB t = true) (hn : ∀ v ∈ t.vars, v < n) (hv0 : 0 ≤ v) (hnv : t.never = false) (hc : t.c ≤ 2) (hv : v ∉ t.vars) : valT (many n v) t ≤ 2 := by
  unfold valT
  rw [hnv]
  simp only [Bool.false_eq_true, if_false]
  rw [maxV_le]
  refine ⟨hc, fun u hu => ?_⟩
  have h5 : 0 ≤ u := by
    rcases (may_iff t).1 hm with h | h
    · rw [h.2.2] at hu; simp at hu
    · exact (h.2.2.2.2.2 u hu).1
  rw [many_at h5 (hn u hu) hv0, if_neg (by rintro rfl; exact hv hu)]
  omega

theorem apart_law {a b : TermD} {n : Nat} (ha : mayB a = true) (hb : mayB b = true) (hna : ∀ v ∈ a.vars, v < n) (hnb : ∀ v ∈ b.vars, v < n) :
    (alikeB a b (ones n) && (a.vars ++ b.vars).all fun v => alikeB a b (many n v)) = sameB a b := by
  have h0 : ∀ v ∈ a.vars ++ b.vars, 0 ≤ v := by
    intro v hv
    rcases List.mem_append.1 hv with hv | hv
    · rcases (may_iff a).1 ha with h | h
      · rw [h.2.2] at hv; simp at hv
      · exact (h.2.2.2.2.2 v hv).1
    · rcases (may_iff b).1 hb with h | h
      · rw [h.2.2] at hv; simp at hv
      · exact (h.2.2.2.2.2 v hv).1
  rw [Bool.eq_iff_iff, sameB_iff, Bool.and_eq_true, List.all_eq_true, alike_fine (fine_ones ha hna) (fine_ones hb hnb), decide_eq_true_eq]
  have hk : ∀ v ∈ a.vars ++ b.vars, (alikeB a b (many n v) = true ↔ valT (many n v) a = valT (many n v) b) := by
    intro v hv
    rw [alike_fine (fine_many ha hna (h0 v hv)) (fine_many hb hnb (h0 v hv)), decide_eq_true_eq]
  constructor
  · rintro ⟨h1, h2⟩
    have h2' : ∀ v ∈ a.vars ++ b.vars, valT (many n v) a = valT (many n v) b := fun v hv => (hk v hv).1 (h2 v hv)
    rw [val_ones ha hna, val_ones hb hnb] at h1
    obtain ⟨an, ac, av⟩ := a
    obtain ⟨bn, bc, bv⟩ := b
    rcases (may_iff _).1 ha with ⟨a1, a2, a3⟩ | ⟨a1, a2, a3, a4, a5, a6⟩
    · rcases (may_iff _).1 hb with ⟨b1, b2, b3⟩ | ⟨b1, b2, b3, b4, b5, b6⟩
      · simp only at a1 a2 a3 b1 b2 b3
        subst a1; subst a2; subst a3; subst b1; subst b2; subst b3
        rfl
      · simp only at a1 b1 b2
        rw [a1, b1] at h1
        simp at h1
        omega
    · rcases (may_iff _).1 hb with ⟨b1, b2, b3⟩ | ⟨b1, b2, b3, b4, b5, b6⟩
      · simp only at a1 b1 a2
        rw [a1, b1] at h1
        simp at h1
        omega
      · simp only at a1 a2 a3 a4 a5 a6 b1 b2 b3 b4 b5 b6 hna hnb h2'
        rw [a1, b1] at h1
        simp at h1
        subst a1; subst b1; subst h1
        have : av = bv := by
          by_cases h3 : ac = 3
          · rw [a4 h3, b4 h3]
          · refine rises_ext av bv a5 b5 fun x => ⟨fun hx => ?_, fun hx => ?_⟩
            · rcases Classical.em (x ∈ bv) with h | h
              · exact h
              · have e1 := val_many_in (t := ⟨false, ac, av⟩) (n := n) ha hna rfl hx
                have e2 := val_many_out (t := ⟨false, ac, bv⟩) (n := n) hb hnb (a6 x hx).1 rfl (by simp; omega) h
                have e3 := h2' x (List.mem_append.2 (.inl hx))
                omega
            · rcases Classical.em (x ∈ av) with h | h
              · exact h
              · have e1 := val_many_in (t := ⟨false, ac, bv⟩) (n := n) hb hnb rfl hx
                have e2 := val_many_out (t := ⟨false, ac, av⟩) (n := n) ha hna (b6 x hx).1 rfl (by simp; omega) h
                have e3 := h2' x (List.mem_append.2 (.inr hx))
                omega
        rw [this]
  · rintro rfl
    exact ⟨rfl, fun v hv => (hk v hv).2 rfl⟩

def maxN (l : List Int) : Int := l.foldl (fun m v => max m (v + 1)) 1
theorem maxN_snoc (l : List Int) (v : Int) : maxN (l ++ [v]) = max (maxN l) (v + 1) := by unfold maxN; rw [List.foldl_append]; rfl
theorem maxN_go : ∀ (l : List Int) (m : Int), m ≤ l.foldl (fun m v => max m (v + 1)) m ∧ ∀ v ∈ l, v < l.foldl (fun m v => max m (v + 1)) m
  | [], m => by simp
  | x :: l, m => by
    obtain ⟨h1, h2⟩ := maxN_go l (max m (x + 1))
    rw [List.foldl_cons]
    refine ⟨by omega, fun v hv => ?_⟩
    rcases List.mem_cons.1 hv with rfl | hv
    · omega
    · exact h2 v hv
theorem maxN_lt (l : List Int) : ∀ v ∈ l, v < maxN l := (maxN_go l 1).2
theorem maxN_pos (l : List Int) : 1 ≤ maxN l := (maxN_go l 1).1
theorem maxN_le : ∀ (l : List Int) (m k : Int), m ≤ k → (∀ v ∈ l, v < k) → l.foldl (fun m v => max m (v + 1)) m ≤ k
  | [], m, k, h, _ => h
  | x :: l, m, k, h, hl => by
    rw [List.foldl_cons]
    exact maxN_le l _ k (by have := hl x (by simp); omega) fun v hv => hl v (List.mem_cons_of_mem _ hv)

end Go.Proofs.Ytbccnfgceabopaa
