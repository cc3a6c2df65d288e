/- Texts of this claim, laid one behind the other: OrdB, OrdC. -/
import Derived.Test.YthabkpkgocafoaaOrd
/- A region that draws its order: two operations that may come up, either first. -/
namespace Go.Proofs.Ythabkpkgocafoaa
set_option linter.unusedVariables false
set_option linter.unusedSimpArgs false
open Go.RowKit
section
variable {P : Program} {ops : Array Oper} {Q : Exit → Act → World → Prop} {md : Region.Mode} {S : World → Prop} {tl : Nat}
theorem wpAnyT_two {i j : Nat} {oi oj : Oper} {fuel : Nat} {listed : Array Bool} {a : Act} {w : World} (hr : Region.ready md ops listed = [i, j]) (hi : ops[i]? = some oi) (hj : ops[j]? = some oj)
    (h1 : ∀ K : Act → World → Prop, Hid (∀ a' w', S w' → wpAnyT P md ops Q S tl fuel (listed.setIfInBounds i true) a' w' → K a' w') →
      if Region.wanted oi (yielded ops a.tmps) = true then oi.wp P a w K Q else K (a.put oi.dst undef) w)
    (h2 : ∀ K : Act → World → Prop, Hid (∀ a' w', S w' → wpAnyT P md ops Q S tl fuel (listed.setIfInBounds j true) a' w' → K a' w') →
      if Region.wanted oj (yielded ops a.tmps) = true then oj.wp P a w K Q else K (a.put oj.dst undef) w) : wpAnyT P md ops Q S tl (fuel + 1) listed a w := by
  refine ⟨fun h0 => (by rw [hr] at h0; cases h0), fun k hk => ?_⟩
  rw [hr] at hk
  rcases List.mem_cons.1 hk with rfl | hk
  · have := h1 (fun a' w' => (k < tl → S w') ∧ wpAnyT P md ops Q S tl fuel (listed.setIfInBounds k true) a' w') (fun a' w' h1 h2 => ⟨fun _ => h1, h2⟩)
    unfold wpOp
    simp only [hi]
    split
    · rename_i hw; rw [if_pos hw] at this; exact .inl this
    · rename_i hw; rw [if_neg hw] at this; exact this
  · obtain rfl : k = j := by simpa using hk
    have := h2 (fun a' w' => (k < tl → S w') ∧ wpAnyT P md ops Q S tl fuel (listed.setIfInBounds k true) a' w') (fun a' w' h1 h2 => ⟨fun _ => h1, h2⟩)
    unfold wpOp
    simp only [hj]
    split
    · rename_i hw; rw [if_pos hw] at this; exact .inl this
    · rename_i hw; rw [if_neg hw] at this; exact this
end
end Go.Proofs.Ythabkpkgocafoaa

/- A region that draws its order: what is waited for through others; three operations that may come up. -/
namespace Go.Proofs.Ythabkpkgocafoaa
set_option linter.unusedVariables false
set_option linter.unusedSimpArgs false
open Go.RowKit
section
variable {P : Program} {ops : Array Oper} {Q : Exit → Act → World → Prop} {md : Region.Mode} {S : World → Prop} {tl : Nat}

/-- number j waits for number i, through others too -/
def waitsFor (md : Region.Mode) (ops : Array Oper) : Nat → Nat → Nat → Bool
  | 0, _, _ => false
  | f + 1, j, i => match ops[j]? with
    | some oj => oj.after.any fun e => Region.binds md e && (e.on == i || waitsFor md ops f e.on i)
    | none => false
def ClosedL (md : Region.Mode) (ops : Array Oper) (listed : Array Bool) : Prop := ∀ j oj, ops[j]? = some oj → listed.getD j false = true → ∀ e ∈ oj.after, Region.binds md e = true → listed.getD e.on false = true
def closedB (md : Region.Mode) (ops : Array Oper) (listed : Array Bool) : Bool :=
  (List.range ops.size).all fun j => !listed.getD j false || (match ops[j]? with
    | some oj => oj.after.all fun e => !Region.binds md e || listed.getD e.on false
    | none => true)
theorem closedB_spec {listed : Array Bool} (h : closedB md ops listed = true) : ClosedL md ops listed := by
  intro j oj hj hl e he hb
  have hlt : j < ops.size := (Array.getElem?_eq_some_iff.1 hj).1
  have h1 := List.all_eq_true.1 h j (List.mem_range.2 hlt)
  rw [hj, hl] at h1
  simp only [Bool.not_true, Bool.false_or] at h1
  have := Array.all_eq_true'.1 h1 e he
  rw [hb] at this
  simpa using this
theorem ClosedL.waits {listed : Array Bool} (h : ClosedL md ops listed) {i : Nat} : ∀ (f j : Nat) (oj : Oper), ops[j]? = some oj → (∀ e ∈ oj.after, Region.binds md e = true → listed.getD e.on false = true) → waitsFor md ops f j i = true → listed.getD i false = true
  | 0, _, _, _, _, hw => by simp [waitsFor] at hw
  | f + 1, j, oj, hj, hall, hw => by
    unfold waitsFor at hw
    rw [hj] at hw
    obtain ⟨e, he, hq⟩ := Array.any_eq_true'.1 hw
    simp only [Bool.and_eq_true, Bool.or_eq_true, beq_iff_eq] at hq
    have hl := hall e he hq.1
    rcases hq.2 with e1 | e1
    · rw [← e1]; exact hl
    · cases hk : ops[e.on]? with
      | none => cases f <;> simp [waitsFor, hk] at e1
      | some ok => exact h.waits f e.on ok hk (fun e2 he2 hb2 => h e.on ok hk hl e2 he2 hb2) e1
theorem ClosedL.set {listed : Array Bool} (h : ClosedL md ops listed) {j : Nat} (hj : j ∈ Region.ready md ops listed) : ClosedL md ops (listed.setIfInBounds j true) := by
  have keep : ∀ k, listed.getD k false = true → (listed.setIfInBounds j true).getD k false = true := fun k hk => by
    by_cases e : j = k
    · subst e
      simp only [Array.getD_eq_getD_getElem?] at hk ⊢
      by_cases hs : j < listed.size
      · simp [hs]
      · rw [Array.getElem?_eq_none (by omega)] at hk; cases hk
    · rw [getD_set_ne false e]; exact hk
  intro k ok hk hl e he hb
  by_cases q : j = k
  · subst q
    obtain ⟨_, o, ho, hall⟩ := mem_ready.1 hj
    rw [hk] at ho
    cases ho
    exact keep _ (hall e he hb)
  · rw [getD_set_ne false q] at hl
    exact keep _ (h k ok hk hl e he hb)
def tailWaitsC (md : Region.Mode) (ops : Array Oper) (tl i : Nat) : Bool :=
  (List.range ops.size).all fun j => decide (j < tl) || waitsFor md ops 4 j i

theorem wpAnyT_firstC {i : Nat} {oi : Oper} {v : Value} (hi : ops[i]? = some oi) (hsel : ∀ (j : Nat) (o : Oper) cs b, ops[j]? = some o → o.op ≠ .select cs b)
    (hQ : ∀ c a w, Q (.panic c) (a.put oi.dst v) w → Q (.panic c) a w) (htl : tailWaitsC md ops tl i = true) :
    ∀ (fuel : Nat) (listed : Array Bool) (a : Act) (w : World), ClosedL md ops listed →
      (∀ j oj, ops[j]? = some oj → j ≠ i → listed.getD j true = false → (∀ e ∈ oj.after, Region.binds md e = true → e.on ≠ i) → oi.apart ops oj = true) →
      i ∈ Region.ready md ops listed → YieldsIf P ops S oi v a → S w →
      wpAnyT P md ops Q S tl fuel (listed.setIfInBounds i true) (a.put oi.dst v) w → wpAnyT P md ops Q S tl (fuel + 1) listed a w := by
  intro fuel
  induction fuel with
  | zero =>
    intro listed a w _ _ hr hy hS H
    refine ⟨fun h => (by rw [h] at hr; cases hr), fun j hj => ?_⟩
    by_cases hji : j = i
    · subst hji; exact hy.wpOp hi hS ⟨fun _ => hS, H⟩
    · have := ready_mono hj hji
      rw [H.1] at this
      cases this
  | succ fuel ih =>
    intro listed a w hcl hfree hr hy hS H
    refine ⟨fun h => (by rw [h] at hr; cases hr), fun j hj => ?_⟩
    by_cases hji : j = i
    · subst hji; exact hy.wpOp hi hS ⟨fun _ => hS, H⟩
    · have h1 := H.2 j (ready_mono hj hji)
      obtain ⟨hjun, oj, hoj, hall⟩ := mem_ready.1 hj
      have hiF : listed.getD i false = true → False := fun h => by
        have h0 := (mem_ready.1 hr).1
        rcases Nat.lt_or_ge i listed.size with h' | h'
        · simp [h'] at h0 h; rw [h0] at h; cases h
        · simp [Array.getElem?_eq_none h'] at h
      have hnot : ∀ e ∈ oj.after, Region.binds md e = true → e.on ≠ i := fun e he hb heq => hiF (heq ▸ hall e he hb)
      have hjt : j < tl := by
        have hlt : j < ops.size := (Array.getElem?_eq_some_iff.1 hoj).1
        have h1 := List.all_eq_true.1 htl j (List.mem_range.2 hlt)
        rw [Bool.or_eq_true, decide_eq_true_eq] at h1
        exact h1.resolve_right fun hw => hiF (hcl.waits 4 j oj hoj hall hw)
      have h2 := wpOp_putIf hoj (hfree j oj hoj hji hjun hnot) (fun cs b => hsel i oi cs b hi) (fun cs b => hsel j oj cs b hoj) hQ hy h1
      have hfree' : ∀ k ok, ops[k]? = some ok → k ≠ i → (listed.setIfInBounds j true).getD k true = false →
          (∀ e ∈ ok.after, Region.binds md e = true → e.on ≠ i) → oi.apart ops ok = true := fun k ok hk hki hun hno => by
        refine hfree k ok hk hki ?_ hno
        by_cases hjk : j = k
        · subst hjk; exact hjun
        · rw [getD_set_ne true hjk] at hun; exact hun
      refine wpOp_mono (fun a' w' h3 => ⟨h3.2.1, ih (listed.setIfInBounds j true) a' w' (hcl.set hj) hfree' (ready_mono hr (Ne.symm hji)) h3.1 (h3.2.1 hjt) ?_⟩) h2
      rw [Array.setIfInBounds_comm _ _ hji]
      exact h3.2.2

/-- number i is taken first -/
theorem wpAnyT_takeC {i : Nat} {oi : Oper} {v : Value} {fuel : Nat} {listed : Array Bool} {a : Act} {w : World} (hi : ops[i]? = some oi)
    (hs : Region.noSelect ops = true) (hf : Region.free md ops listed i = true) (hr : (Region.ready md ops listed).contains i = true) (hc : closedB md ops listed = true) (htl : tailWaitsC md ops tl i = true)
    (hQ : ∀ c a w, Q (.panic c) (a.put oi.dst v) w → Q (.panic c) a w) (hy : YieldsIf P ops S oi v a) (hS : S w)
    (h : wpAnyT P md ops Q S tl fuel (listed.setIfInBounds i true) (a.put oi.dst v) w) : wpAnyT P md ops Q S tl (fuel + 1) listed a w :=
  wpAnyT_firstC hi (Region.noSelect_spec hs) hQ htl fuel listed a w (closedB_spec hc) (Region.free_spec hi hf) (by simpa using hr) hy hS h

/-- three that may come up -/
theorem wpAnyT_three {i j k : Nat} {oi oj ok : Oper} {fuel : Nat} {listed : Array Bool} {a : Act} {w : World} (hr : Region.ready md ops listed = [i, j, k]) (hi : ops[i]? = some oi) (hj : ops[j]? = some oj) (hk : ops[k]? = some ok)
    (h1 : ∀ K : Act → World → Prop, Hid (∀ a' w', S w' → wpAnyT P md ops Q S tl fuel (listed.setIfInBounds i true) a' w' → K a' w') →
      if Region.wanted oi (yielded ops a.tmps) = true then oi.wp P a w K Q else K (a.put oi.dst undef) w)
    (h2 : ∀ K : Act → World → Prop, Hid (∀ a' w', S w' → wpAnyT P md ops Q S tl fuel (listed.setIfInBounds j true) a' w' → K a' w') →
      if Region.wanted oj (yielded ops a.tmps) = true then oj.wp P a w K Q else K (a.put oj.dst undef) w)
    (h3 : ∀ K : Act → World → Prop, Hid (∀ a' w', S w' → wpAnyT P md ops Q S tl fuel (listed.setIfInBounds k true) a' w' → K a' w') →
      if Region.wanted ok (yielded ops a.tmps) = true then ok.wp P a w K Q else K (a.put ok.dst undef) w) : wpAnyT P md ops Q S tl (fuel + 1) listed a w := by
  have one : ∀ (m : Nat) (om : Oper), ops[m]? = some om → (∀ K : Act → World → Prop, Hid (∀ a' w', S w' → wpAnyT P md ops Q S tl fuel (listed.setIfInBounds m true) a' w' → K a' w') →
      if Region.wanted om (yielded ops a.tmps) = true then om.wp P a w K Q else K (a.put om.dst undef) w) → wpOp P ops Q m (fun a' w' => (m < tl → S w') ∧ wpAnyT P md ops Q S tl fuel (listed.setIfInBounds m true) a' w') a w := by
    intro m om hm h
    have := h (fun a' w' => (m < tl → S w') ∧ wpAnyT P md ops Q S tl fuel (listed.setIfInBounds m true) a' w') (fun a' w' h1 h2 => ⟨fun _ => h1, h2⟩)
    unfold wpOp
    simp only [hm]
    split
    · rename_i hw; rw [if_pos hw] at this; exact .inl this
    · rename_i hw; rw [if_neg hw] at this; exact this
  refine ⟨fun h0 => (by rw [hr] at h0; cases h0), fun m hm => ?_⟩
  rw [hr] at hm
  simp only [List.mem_cons, List.not_mem_nil, or_false] at hm
  rcases hm with rfl | rfl | rfl
  · exact one _ _ hi h1
  · exact one _ _ hj h2
  · exact one _ _ hk h3
end
end Go.Proofs.Ythabkpkgocafoaa

