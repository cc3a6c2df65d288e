/- Plain law of the solver: the core. -/
import Derived.Test.YthabkpkgocafoaaLeastP
namespace Go.Proofs.Ythabkpkgocafoaa
set_option linter.unusedVariables false
set_option linter.unusedSimpArgs false

/-- an inequality holds under an assignment -/
def holdL (asg : List Int) (x : IneqD) : Prop := leftL asg x ≤ if 0 ≤ x.r then max x.c (asg.getD x.r.toNat 0) else x.c
theorem holdL.keeps {asg : List Int} {x : IneqD} (h : holdL asg x) : keepsL asg x := fun hr => by unfold holdL at h; rwa [if_pos hr] at h
theorem keepsL.hold {asg : List Int} {x : IneqD} (h : keepsL asg x) (hr : 0 ≤ x.r) : holdL asg x := by unfold holdL; rw [if_pos hr]; exact h hr

/-- the way back from an inequality -/
inductive ChainL (xs : List IneqD) (low why : List Int) : IneqD → Int → List Nat → Prop
  | stop (x : IneqD) (over : Int) (h : ¬ (x.lc = 0 ∧ low.getD x.lv.toNat 0 ≤ over)) : ChainL xs low why x over []
  | step (x y : IneqD) (over : Int) (k : Nat) (l : List Nat) (h0 : x.lc = 0) (h1 : low.getD x.lv.toNat 0 ≤ over) (hk : why.getD x.lv.toNat (-1) = (k : Int)) (hy : xs[k]? = some y) (ht : ChainL xs low why y (max over y.c) l) : ChainL xs low why x over (k :: l)

structure EndL (xs : List IneqD) (low is why : List Int) : Prop where
  inv : InvL xs low is why
  closed : ∀ x ∈ xs, keepsL is x
  over : ∀ x ∈ xs, OverL low.length x

theorem EndL.next {xs : List IneqD} {low is why : List Int} {rank : Nat → Nat} (h : EndL xs low is why) (hW : ∀ v, v < low.length → WhyL xs low is why rank v) {x : IneqD} {over : Int} (hx : OverL low.length x) (ho : over < leftL is x) (h0 : x.lc = 0) (h1 : low.getD x.lv.toNat 0 ≤ over) :
    ∃ (k : Nat) (y : IneqD), why.getD x.lv.toNat (-1) = (k : Int) ∧ xs[k]? = some y ∧ y.r = x.lv ∧ 0 ≤ y.r ∧ OverL low.length y ∧ max over y.c < leftL is y ∧ (y.lc = 0 → rank y.lv.toNat < rank x.lv.toNat) := by
  obtain ⟨hv0, hv1⟩ := hx.lv h0
  obtain ⟨v, hv⟩ : ∃ v : Nat, x.lv = (v : Int) := ⟨x.lv.toNat, (Int.toNat_of_nonneg hv0).symm⟩
  have hvn : v < low.length := by omega
  have hl : leftL is x = is.getD v 0 := by unfold leftL; rw [if_pos h0, hv, Int.toNat_natCast]
  have hvt : x.lv.toNat = v := by omega
  rw [hvt] at h1 ⊢
  rcases hW v hvn with ⟨a, b⟩ | ⟨k, y, a, b, c, d, f, g⟩
  · omega
  · have hm := List.mem_of_getElem? b
    have hc := h.closed y hm (by omega)
    rw [c, Int.toNat_natCast] at hc
    have e : leftL is y = is.getD v 0 := by omega
    exact ⟨k, y, a, b, c.trans hv.symm, by omega, h.over y hm, by omega, fun h2 => g h2 e⟩

theorem EndL.chain {xs : List IneqD} {low is why : List Int} {rank : Nat → Nat} (h : EndL xs low is why) (hW : ∀ v, v < low.length → WhyL xs low is why rank v) :
    ∀ (f : Nat) (x : IneqD) (over : Int), OverL low.length x → over < leftL is x → (x.lc = 0 → rank x.lv.toNat < f) → ∃ l, ChainL xs low why x over l := by
  intro f
  induction f with
  | zero =>
    intro x over hx ho hr
    by_cases hh : x.lc = 0 ∧ low.getD x.lv.toNat 0 ≤ over
    · exact absurd (hr hh.1) (Nat.not_lt_zero _)
    · exact ⟨[], .stop x over hh⟩
  | succ f ih =>
    intro x over hx ho hr
    by_cases hh : x.lc = 0 ∧ low.getD x.lv.toNat 0 ≤ over
    · obtain ⟨k, y, a, b, c, d, e, g, i⟩ := h.next hW hx ho hh.1 hh.2
      obtain ⟨l, hl⟩ := ih y (max over y.c) e g (fun h2 => by have := i h2; have := hr hh.1; omega)
      exact ⟨k :: l, .step x y over k l hh.1 hh.2 a b hl⟩
    · exact ⟨[], .stop x over hh⟩

/-- what all of a way are: raisers, ranked downward -/
theorem ChainL.mem {xs : List IneqD} {low is why : List Int} {rank : Nat → Nat} (h : EndL xs low is why) (hW : ∀ v, v < low.length → WhyL xs low is why rank v) {x : IneqD} {over : Int} {l : List Nat} (hc : ChainL xs low why x over l) :
    OverL low.length x → over < leftL is x → ∀ j ∈ l, x.lc = 0 ∧ ∃ y, xs[j]? = some y ∧ OverL low.length y ∧ 0 ≤ y.r ∧ rank y.r.toNat ≤ rank x.lv.toNat ∧ (y.lc = 0 → rank y.lv.toNat < rank y.r.toNat) := by
  induction hc with
  | stop x over hh => intro _ _ j hj; cases hj
  | step x y over k l h0 h1 hk hy ht ih =>
    intro hx ho j hj
    refine ⟨h0, ?_⟩
    obtain ⟨k', y', a, b, c, d, e, g, i⟩ := h.next hW hx ho h0 h1
    have hkk : k' = k := by rw [a] at hk; omega
    subst hkk
    rw [b] at hy
    cases hy
    rcases List.mem_cons.1 hj with rfl | hj
    · exact ⟨y, b, e, d, by rw [c]; exact Nat.le_refl _, by rw [c]; exact i⟩
    · obtain ⟨q0, z, z1, z2, z3, z4, z5⟩ := ih e g j hj
      have := i q0
      exact ⟨z, z1, z2, z3, by omega, z5⟩

/-- all of a way, and what it came from, cannot hold together -/
theorem ChainL.no {xs : List IneqD} {low is why : List Int} {rank : Nat → Nat} (h : EndL xs low is why) (hW : ∀ v, v < low.length → WhyL xs low is why rank v) {x : IneqD} {over : Int} {l : List Nat} (hc : ChainL xs low why x over l) (asg : List Int) (hlow : ∀ v, v < low.length → low.getD v 0 ≤ asg.getD v 0) :
    OverL low.length x → over < leftL is x → (∀ j ∈ l, ∀ y, xs[j]? = some y → keepsL asg y) → over < leftL asg x := by
  induction hc with
  | stop x over hh =>
    intro hx ho _
    unfold leftL at ho ⊢
    by_cases h0 : x.lc = 0
    · rw [if_pos h0]
      have := hx.lv h0
      have h2 := hlow x.lv.toNat (by omega)
      have h3 : ¬ low.getD x.lv.toNat 0 ≤ over := fun z => hh ⟨h0, z⟩
      omega
    · rw [if_neg h0] at ho ⊢; exact ho
  | step x y over k l h0 h1 hk hy ht ih =>
    intro hx ho hall
    obtain ⟨k', y', a, b, c, d, e, g, i⟩ := h.next hW hx ho h0 h1
    have hkk : k' = k := by rw [a] at hk; omega
    subst hkk
    rw [b] at hy
    cases hy
    have h2 := ih e g (fun j hj => hall j (List.mem_cons_of_mem _ hj))
    have h3 := hall _ List.mem_cons_self y b d
    rw [c] at h3
    have h4 : leftL asg x = asg.getD x.lv.toNat 0 := by unfold leftL; rw [if_pos h0]
    omega

theorem leftL_le3 {n : Nat} {x : IneqD} {asg : List Int} (hx : OverL n x) (ht : ∀ v, v < n → asg.getD v 0 ≤ 3) : leftL asg x ≤ 3 := leftL_top hx ht

/-- without any one of a way, what is left of it can hold, and the way's first left side lies low -/
theorem ChainL.some {xs : List IneqD} {low is why : List Int} {rank : Nat → Nat} (h : EndL xs low is why) (hW : ∀ v, v < low.length → WhyL xs low is why rank v) (hlow3 : ∀ v, v < low.length → low.getD v 0 ≤ 3) {x : IneqD} {over : Int} {l : List Nat} (hc : ChainL xs low why x over l) :
    OverL low.length x → over < leftL is x → ∀ (l1 : List Nat) (k : Nat) (l2 : List Nat), l = l1 ++ k :: l2 →
      ∃ asg : List Int, asg.length = low.length ∧ (∀ v, v < low.length → low.getD v 0 ≤ asg.getD v 0 ∧ asg.getD v 0 ≤ 3) ∧ leftL asg x ≤ over ∧ (∀ j ∈ l1 ++ l2, ∀ y, xs[j]? = Option.some y → keepsL asg y) ∧ ∀ v, v < low.length → rank x.lv.toNat < rank v → asg.getD v 0 = 3 := by
  induction hc with
  | stop x over hh => intro _ _ l1 k l2 hl; exact absurd hl.symm (by simp)
  | step x y over k l h0 h1 hk hy ht ih =>
    intro hx ho l1 k0 l2 hl
    have hmem := ChainL.mem h hW (.step x y over k l h0 h1 hk hy ht) hx ho
    obtain ⟨hv0, hv1⟩ := hx.lv h0
    have hvn : x.lv.toNat < low.length := by omega
    have ho3 : over ≤ 3 := by have := leftL_top hx h.inv.top; omega
    obtain ⟨k', y', a, b, c, d, e, g, i⟩ := h.next hW hx ho h0 h1
    have hkk : k' = k := by rw [a] at hk; omega
    subst hkk
    rw [b] at hy
    cases hy
    -- a variable of the rest is not x's
    have hrest : ∀ j ∈ l, ∃ z, xs[j]? = Option.some z ∧ OverL low.length z ∧ 0 ≤ z.r ∧ z.r.toNat ≠ x.lv.toNat ∧ (z.lc = 0 → z.lv.toNat ≠ x.lv.toNat) := by
      intro j hj
      obtain ⟨q0, z, z1, z2, z3, z4, z5⟩ := ChainL.mem h hW ht e g j hj
      have := i q0
      refine ⟨z, z1, z2, z3, fun e' => ?_, fun hz e' => ?_⟩
      · rw [e'] at z4; omega
      · have := z5 hz; rw [e'] at this; omega
    cases l1 with
    | nil =>
      simp only [List.nil_append, List.cons.injEq] at hl
      obtain ⟨rfl, rfl⟩ := hl
      have hl3 : x.lv.toNat < (List.replicate low.length (3 : Int)).length := by simpa using hvn
      have hg3 : ∀ v, v < low.length → (List.replicate low.length (3 : Int)).getD v 0 = 3 := fun v hv => by simp [List.getD, hv]
      refine ⟨(List.replicate low.length 3).set x.lv.toNat over, by simp, fun v hv => ?_, ?_, ?_, ?_⟩
      · rw [getD_set _ _ _ _ _ hl3]
        split
        · rename_i e'; subst e'; exact ⟨h1, ho3⟩
        · rw [hg3 v hv]; exact ⟨hlow3 v hv, Int.le_refl _⟩
      · rw [leftL_set _ hl3, if_pos ⟨h0, rfl⟩]; exact Int.le_refl _
      · intro j hj z hz hzr
        obtain ⟨z', a1, a2, a3, a4, a5⟩ := hrest j (by simpa using hj)
        rw [hz] at a1
        cases a1
        have hzn : z.r.toNat < low.length := by have := a2.r; omega
        rw [getD_set _ _ _ _ _ hl3, if_neg (fun e' => a4 e'.symm), hg3 _ hzn]
        have : leftL ((List.replicate low.length 3).set x.lv.toNat over) z ≤ 3 := leftL_top a2 fun v hv => by
          rw [getD_set _ _ _ _ _ hl3]
          split
          · exact ho3
          · rw [hg3 v hv]; exact Int.le_refl _
        omega
      · intro v hv hr
        rw [getD_set _ _ _ _ _ hl3, if_neg (fun e' => by subst e'; omega), hg3 v hv]
    | cons k1 l1 =>
      simp only [List.cons_append, List.cons.injEq] at hl
      obtain ⟨rfl, hl⟩ := hl
      obtain ⟨asg, s1, s2, s3, s4, s5⟩ := ih e g l1 k0 l2 hl
      have hla : x.lv.toNat < asg.length := by omega
      have hy0 : y.lc = 0 := (ChainL.mem h hW ht e g k0 (by rw [hl]; simp)).1
      have hyr := i hy0
      refine ⟨asg.set x.lv.toNat over, by simpa using s1, fun v hv => ?_, ?_, ?_, ?_⟩
      · rw [getD_set _ _ _ _ _ hla]
        split
        · rename_i e'; subst e'; exact ⟨h1, ho3⟩
        · exact s2 v hv
      · rw [leftL_set _ hla, if_pos ⟨h0, rfl⟩]; exact Int.le_refl _
      · intro j hj z hz hzr
        rcases List.mem_cons.1 hj with rfl | hj
        · rw [b] at hz
          cases hz
          rw [leftL_set _ hla, if_neg (fun e' => by have := e'.2; rw [this] at hyr; omega), getD_set _ _ _ _ _ hla, if_pos (by rw [c])]
          omega
        · have hjl : j ∈ l := by
            rw [hl]
            rcases List.mem_append.1 hj with q | q
            · exact List.mem_append.2 (Or.inl q)
            · exact List.mem_append.2 (Or.inr (List.mem_cons_of_mem _ q))
          obtain ⟨z', a1, a2, a3, a4, a5⟩ := hrest j hjl
          rw [hz] at a1
          cases a1
          have := s4 j hj z hz hzr
          rw [leftL_set _ hla, if_neg (fun e' => a5 e'.1 e'.2.symm), getD_set _ _ _ _ _ hla, if_neg (fun e' => a4 e'.symm)]
          exact this
      · intro v hv hr
        rw [getD_set _ _ _ _ _ hla, if_neg (fun e' => by subst e'; omega)]
        exact s5 v hv (by omega)

/-- a way has no twins -/
theorem ChainL.nodup {xs : List IneqD} {low is why : List Int} {rank : Nat → Nat} (h : EndL xs low is why) (hW : ∀ v, v < low.length → WhyL xs low is why rank v) {x : IneqD} {over : Int} {l : List Nat} (hc : ChainL xs low why x over l) :
    OverL low.length x → over < leftL is x → l.Nodup := by
  induction hc with
  | stop x over hh => intro _ _; exact List.nodup_nil
  | step x y over k l h0 h1 hk hy ht ih =>
    intro hx ho
    obtain ⟨k', y', a, b, c, d, e, g, i⟩ := h.next hW hx ho h0 h1
    have hkk : k' = k := by rw [a] at hk; omega
    subst hkk
    rw [b] at hy
    cases hy
    refine List.nodup_cons.2 ⟨fun hm => ?_, ih e g⟩
    obtain ⟨q0, z, z1, z2, z3, z4, z5⟩ := ChainL.mem h hW ht e g _ hm
    rw [b] at z1
    cases z1
    have := i q0
    rw [c] at z4
    omega

end Go.Proofs.Ythabkpkgocafoaa
