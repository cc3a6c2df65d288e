/- Plain laws for LeastKnown: the document's examples. slices.Equal at ints; a made slice of inequalities. -/
import Derived.Test.YthabkpkgocafoaaLawN
namespace Go.Proofs.Ythabkpkgocafoaa
set_option linter.unusedVariables false
set_option linter.unusedSimpArgs false
open Go.RowKit

theorem equalI_any (A : Option Addr) (n c : Nat) (us : List Int) (A' : Option Addr) (n' c' : Nat) (us' : List Int) (w : World) (B B' : Nat) (h : RdI .i64 w B A n c us) (h' : RdI .i64 w B' A' n' c' us') :
    Calls Try.prog 18 #[.slice A n c, .slice A' n' c'] w fun e w' => e = .returned (.bool (us == us')) ∧ Below w.heap.size w w' := by
  have hl := h.len
  have hl' := h'.len
  have hc : c ≤ 9223372036854775807 := h.2.2
  have hc' : c' ≤ 9223372036854775807 := h'.2.2
  have hn := h.2.1
  have hn' := h'.2.1
  by_cases e : n = n'
  · subst e
    rcases Nat.eq_zero_or_pos n with h0 | h0
    · subst h0
      obtain rfl := List.eq_nil_of_length_eq_zero hl
      obtain rfl := List.eq_nil_of_length_eq_zero hl'
      refine (Try.slices_Equal_int_empty A A' c 0 c' w (by omega)).mono ?_
      rintro e w' ⟨rfl, rfl⟩
      exact ⟨rfl, Below.refl _ _⟩
    · obtain ⟨b, off, rfl, hb, hcell⟩ := h.at_ h0
      obtain ⟨b', off', rfl, hb', hcell'⟩ := h'.at_ h0
      refine (Try.slices_Equal_int b off n c b' off' n c' us us' w (by omega) (by omega) (by omega) (by omega) (fun j hj => by rw [hcell j hj]; simp [List.getD, hj]) (fun j hj => by rw [hcell' j hj]; simp [List.getD, hj])).mono ?_
      rintro e w' ⟨rfl, q, rfl⟩
      rw [List.take_of_length_le (by omega), List.take_of_length_le (by omega)]
      exact ⟨rfl, below_drewN_t (Below.refl _ _) q⟩
  · refine (Try.slices_Equal_int_lens A A' n c n' c' w e).mono ?_
    rintro e' w' ⟨rfl, rfl⟩
    refine ⟨?_, Below.refl _ _⟩
    have : (us == us') = false := beq_eq_false_iff_ne.2 (fun he => e (by rw [← hl, ← hl', he]))
    rw [this]

def xsA : List IneqD := [⟨0, 3, 1, 0⟩, ⟨0, 0, 2, 1⟩]
theorem xsA_least : LeastSolL xsA (low0 (2 : Nat) []) [3, 3] := by
  have e : low0 ((2 : Nat) : Int) [] = [1, 1] := by decide
  rw [e]
  refine ⟨⟨rfl, by decide, by unfold xsA holdL; decide⟩, fun asg h => ?_⟩
  obtain ⟨h1, h2, h3⟩ := h
  match asg, h1 with
  | [a, b], _ =>
    have k0 := h3 ⟨0, 3, 1, 0⟩ (by simp [xsA])
    have k1 := h3 ⟨0, 0, 2, 1⟩ (by simp [xsA])
    simp [holdL, leftL] at k0 k1
    intro v hv
    match v, hv with
    | 0, _ => simp; omega
    | 1, _ => simp; omega
theorem xsA_ok : OkS ((2 : Nat) : Int) [] xsA := ⟨by decide, Or.inl rfl, by unfold xsA; decide, fun z hz => absurd hz (by simp)⟩
def xsB : List IneqD := [⟨0, 2, 1, 0⟩, ⟨0, 0, 1, 1⟩, ⟨0, 1, 1, 2⟩, ⟨1, 0, 1, -1⟩]
theorem xsB_ok : OkS ((3 : Nat) : Int) [] xsB := ⟨by decide, Or.inl rfl, by unfold xsB; decide, fun z hz => absurd hz (by simp)⟩
theorem xsB_none (asg : List Int) : ¬ SolvL xsB (low0 (3 : Nat) []) asg := by
  have e : low0 ((3 : Nat) : Int) [] = [1, 1, 1] := by decide
  rw [e]
  rintro ⟨h1, h2, h3⟩
  match asg, h1 with
  | [a, b, c], _ =>
    have k0 := h3 ⟨0, 2, 1, 0⟩ (by simp [xsB])
    have k1 := h3 ⟨0, 0, 1, 1⟩ (by simp [xsB])
    have k3 := h3 ⟨1, 0, 1, -1⟩ (by simp [xsB])
    simp [holdL, leftL] at k0 k1 k3
    omega
def xsC : List IneqD := [⟨0, 0, 1, 1⟩, ⟨1, 0, 1, -1⟩]
theorem xsC_ok : OkS ((2 : Nat) : Int) [2, 1] xsC := ⟨by decide, Or.inr (by decide), by unfold xsC; decide, by decide⟩
theorem xsC_none (asg : List Int) : ¬ SolvL xsC (low0 (2 : Nat) [2, 1]) asg := by
  have e : low0 ((2 : Nat) : Int) [2, 1] = [2, 1] := by decide
  rw [e]
  rintro ⟨h1, h2, h3⟩
  match asg, h1 with
  | [a, b], _ =>
    have k0 := h2 0 (by simp)
    have k1 := h3 ⟨0, 0, 1, 1⟩ (by simp [xsC])
    have k3 := h3 ⟨1, 0, 1, -1⟩ (by simp [xsC])
    simp [holdL, leftL] at k0 k1 k3
    omega

/-- the core that Solve tells -/
theorem SolveR.core {n : Nat} {low : List Int} {xs : List IneqD} {a core : List Int} {e : Int} (h : SolveR (n : Int) low xs a core e) (he : e = 40) :
    ∃ is why, EndL xs (low0 n low) is why ∧ ∃ i x l, xs[i]? = some x ∧ x.r < 0 ∧ x.c < leftL is x ∧ ChainL xs (low0 n low) why x x.c l ∧ core = (natI (i :: l)).mergeSort (fun a b => decide (a ≤ b)) := by
  rcases h with ⟨_, _, _, h1⟩ | ⟨_, _, _, _, _, h1⟩ | ⟨_, _, h1, is, why, hE, h2⟩
  · omega
  · omega
  · rcases h2 with ⟨i, x, l, hi, hr, hc, hl, _, h3, _⟩ | ⟨_, _, _, h3⟩
    · exact ⟨is, why, hE, i, x, l, hi, hr, hc, hl, h3⟩
    · omega
/-- one step of a way -/
theorem ChainL.go {xs : List IneqD} {low is why : List Int} (h : EndL xs low is why) {x : IneqD} {over : Int} {l : List Nat} (hc : ChainL xs low why x over l) (hx : OverL low.length x) (ho : over < leftL is x) (h0 : x.lc = 0) (h1 : low.getD x.lv.toNat 0 ≤ over) :
    ∃ (k : Nat) (y : IneqD) (t : List Nat), l = k :: t ∧ xs[k]? = Option.some y ∧ y.r = x.lv ∧ OverL low.length y ∧ max over y.c < leftL is y ∧ ChainL xs low why y (max over y.c) t := by
  obtain ⟨rank, T, hT, hW⟩ := h.inv.rk
  obtain ⟨k, y, a, b, c, d, e, g, i⟩ := h.next hW hx ho h0 h1
  cases hc with
  | stop _ _ hh => exact absurd ⟨h0, h1⟩ hh
  | step _ z _ k' t _ _ hk hz ht =>
    have : k' = k := by rw [a] at hk; omega
    subst this
    rw [b] at hz
    cases hz
    exact ⟨k', y, t, rfl, b, c, e, g, ht⟩
theorem ChainL.halt {xs : List IneqD} {low why : List Int} {x : IneqD} {over : Int} {l : List Nat} (hc : ChainL xs low why x over l) (h : ¬ (x.lc = 0 ∧ low.getD x.lv.toNat 0 ≤ over)) : l = [] := by
  cases hc with
  | stop => rfl
  | step _ _ _ _ _ h0 h1 => exact absurd ⟨h0, h1⟩ h

theorem xsB_core {a core : List Int} {e : Int} (h : SolveR ((3 : Nat) : Int) [] xsB a core e) : e = 40 ∧ core = [0, 1, 3] := by
  have he : e = 40 := (h.none (by omega) (by unfold xsB; simp) xsB_ok xsB_none).1
  refine ⟨he, ?_⟩
  obtain ⟨is, why, hE, i, x, l, hi, hr, hc, hl, hcore⟩ := h.core he
  have e0 : low0 ((3 : Nat) : Int) [] = [1, 1, 1] := by decide
  rw [e0] at hE hl
  have hx := hE.over x (List.mem_of_getElem? hi)
  have hi3 : i = 3 ∧ x = ⟨1, 0, 1, -1⟩ := by
    have hlt := (List.getElem?_eq_some_iff.1 hi).1
    match i, hlt, hi with
    | 0, _, hi => cases hi; simp at hr
    | 1, _, hi => cases hi; simp at hr
    | 2, _, hi => cases hi; simp at hr
    | 3, _, hi => cases hi; exact ⟨rfl, rfl⟩
    | i + 4, hlt, _ => unfold xsB at hlt; simp at hlt; omega
  obtain ⟨rfl, rfl⟩ := hi3
  obtain ⟨k, y, t, rfl, hk, hyr, hyo, hyl, ht⟩ := hl.go hE hx hc rfl (by decide)
  have hk1 : k = 1 ∧ y = ⟨0, 0, 1, 1⟩ := by
    have hlt := (List.getElem?_eq_some_iff.1 hk).1
    match k, hlt, hk with
    | 0, _, hi => cases hi; simp at hyr
    | 1, _, hi => cases hi; exact ⟨rfl, rfl⟩
    | 2, _, hi => cases hi; simp at hyr
    | 3, _, hi => cases hi; simp at hyr
    | k + 4, hlt, _ => unfold xsB at hlt; simp at hlt; omega
  obtain ⟨rfl, rfl⟩ := hk1
  obtain ⟨k, y, t', rfl, hk, hyr, hyo, hyl, ht⟩ := ht.go hE hyo hyl rfl (by decide)
  have hk0 : k = 0 ∧ y = ⟨0, 2, 1, 0⟩ := by
    have hlt := (List.getElem?_eq_some_iff.1 hk).1
    match k, hlt, hk with
    | 0, _, hi => cases hi; exact ⟨rfl, rfl⟩
    | 1, _, hi => cases hi; simp at hyr
    | 2, _, hi => cases hi; simp at hyr
    | 3, _, hi => cases hi; simp at hyr
    | k + 4, hlt, _ => unfold xsB at hlt; simp at hlt; omega
  obtain ⟨rfl, rfl⟩ := hk0
  have := ht.halt (by decide)
  subst this
  rw [hcore]
  simp [natI, List.mergeSort, List.MergeSort.Internal.splitInTwo, List.merge]
theorem xsC_core {a core : List Int} {e : Int} (h : SolveR ((2 : Nat) : Int) [2, 1] xsC a core e) : e = 40 ∧ core = [0, 1] := by
  have he : e = 40 := (h.none (by omega) (by unfold xsC; simp) xsC_ok xsC_none).1
  refine ⟨he, ?_⟩
  obtain ⟨is, why, hE, i, x, l, hi, hr, hc, hl, hcore⟩ := h.core he
  have e0 : low0 ((2 : Nat) : Int) [2, 1] = [2, 1] := by decide
  rw [e0] at hE hl
  have hx := hE.over x (List.mem_of_getElem? hi)
  have hi3 : i = 1 ∧ x = ⟨1, 0, 1, -1⟩ := by
    have hlt := (List.getElem?_eq_some_iff.1 hi).1
    match i, hlt, hi with
    | 0, _, hi => cases hi; simp at hr
    | 1, _, hi => cases hi; exact ⟨rfl, rfl⟩
    | i + 2, hlt, _ => unfold xsC at hlt; simp at hlt; omega
  obtain ⟨rfl, rfl⟩ := hi3
  obtain ⟨k, y, t, rfl, hk, hyr, hyo, hyl, ht⟩ := hl.go hE hx hc rfl (by decide)
  have hk1 : k = 0 ∧ y = ⟨0, 0, 1, 1⟩ := by
    have hlt := (List.getElem?_eq_some_iff.1 hk).1
    match k, hlt, hk with
    | 0, _, hi => cases hi; exact ⟨rfl, rfl⟩
    | 1, _, hi => cases hi; simp at hyr
    | k + 2, hlt, _ => unfold xsC at hlt; simp at hlt; omega
  obtain ⟨rfl, rfl⟩ := hk1
  have := ht.halt (by decide)
  subst this
  rw [hcore]
  simp [natI, List.mergeSort, List.MergeSort.Internal.splitInTwo, List.merge]
theorem empty_least (N : Nat) : LeastSolL [] (low0 N []) (List.replicate N 1) := by
  have e : low0 ((N : Nat) : Int) [] = List.replicate N 1 := by unfold low0; simp
  rw [e]
  exact ⟨⟨rfl, fun v hv => Int.le_refl _, fun x hx => absurd hx (by simp)⟩, fun asg h => h.low⟩
theorem empty_ok (N : Nat) : OkS (N : Int) [] [] := ⟨by omega, Or.inl rfl, fun x hx => absurd hx (by simp), fun z hz => absurd hz (by simp)⟩

end Go.Proofs.Ythabkpkgocafoaa
