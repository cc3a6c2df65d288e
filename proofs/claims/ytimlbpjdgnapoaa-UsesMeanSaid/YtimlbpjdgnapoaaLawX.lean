/- Plain laws of joined and summed uses: order, taken out and summed again. Worlds with uses in them. -/
import Derived.Test.YtimlbpjdgnapoaaM10
import Derived.Test.YtimlbpjdgnapoaaBox
namespace Go.Proofs.Ytimlbpjdgnapoaa
set_option linter.unusedVariables false
set_option linter.unusedSimpArgs false
open Go.RowKit

/-- the world behind what was done, with uses that were made -/
structure StU (w0 w : World) (l : List (Option Addr × Nat × Nat × List UseD)) : Prop where
  bel : Below w0.heap.size w0 w
  use : ∀ p ∈ l, UsesV w w.heap.size p.1 p.2.1 p.2.2.1 p.2.2.2
section
variable {w0 w w' : World} {l : List (Option Addr × Nat × Nat × List UseD)} {A : Option Addr} {n c : Nat} {xs : List UseD}
theorem StU.start (w : World) : StU w w [] := ⟨Below.refl _ _, by simp⟩
theorem StU.below (h : StU w0 w l) (hb : Below w.heap.size w w') : StU w0 w' l := ⟨h.bel.trans (hb.mono h.bel.size), fun p hp => ((h.use p hp).below hb).more hb.size⟩
theorem StU.add (h : StU w0 w l) (hx : UsesV w w.heap.size A n c xs) : StU w0 w ((A, n, c, xs) :: l) := ⟨h.bel, fun p hp => by
  rcases List.mem_cons.1 hp with rfl | hp
  · exact hx
  · exact h.use p hp⟩
theorem StU.alloc (h : StU w0 w l) (o : Obj) : StU w0 (w.alloc o) l := h.below (below_box o)
theorem StU.drew (h : StU w0 w l) : StU w0 w.drew l := h.below ((Below.refl _ _).drew)
theorem StU.get (h : StU w0 w l) (A : Option Addr) (n c : Nat) (xs : List UseD) (hm : (A, n, c, xs) ∈ l) : UsesV w w.heap.size A n c xs := h.use _ hm
end

theorem sset_ext {l m : List Int} (h : ∀ x, x ∈ l ↔ x ∈ m) : sset l = sset m := sset_eq (sset_rises m).1 fun x => by rw [(sset_rises m).2, h]
theorem someT_perm {a b : List TermD} (h : a.Perm b) : (someT a).Perm (someT b) := h.filter _
theorem joinT_perm {a b : List TermD} (h : a.Perm b) : joinT a = joinT b := by
  have hs := someT_perm h
  unfold joinT
  by_cases ha : someT a = []
  · have hb : someT b = [] := by rw [ha] at hs; exact hs.nil_eq.symm
    rw [if_pos ha, if_pos hb]
  · have hb : someT b ≠ [] := fun e => ha (by rw [e] at hs; exact hs.eq_nil)
    rw [if_neg ha, if_neg hb]
    have e0 : joinC0 a = joinC0 b := by unfold joinC0; rw [hs.length_eq, h.length_eq]
    have e1 : ∀ c, joinCs c (someT a) = joinCs c (someT b) := fun c => hs.foldl_eq' (fun x _ y _ z => by omega) c
    have e2 : ∀ x, x ∈ joinVs (someT a) ↔ x ∈ joinVs (someT b) := fun x => by
      unfold joinVs
      simp only [List.mem_flatMap, hs.mem_iff]
    have e3 : joinVs (someT a) = [] ↔ joinVs (someT b) = [] := by simp only [List.eq_nil_iff_forall_not_mem, e2]
    rw [e0, e1]
    unfold cleanT
    rw [sset_ext e2]
    simp only [e3]
theorem sumT_perm {a b : List TermD} (h : a.Perm b) : sumT a = sumT b := by
  have hs := someT_perm h
  unfold sumT
  generalize someT a = x at hs
  generalize someT b = y at hs
  match x with
  | [] => rw [hs.nil_eq.symm]
  | [t] => rw [hs.singleton_eq.symm]
  | t :: u :: r =>
    match y with
    | [] => exact absurd hs.length_eq (by simp)
    | [s] => exact absurd hs.length_eq (by simp)
    | s :: v :: q => rfl
theorem each_perm {F : List TermD → TermD} (hF : EachF F) (hp : ∀ a b : List TermD, a.Perm b → F a = F b) {a b : List (List UseD)} (h : a.Perm b) (ha : ∀ l ∈ a, Good l) : eachU F a = eachU F b := by
  have hb : ∀ l ∈ b, Good l := fun l hl => ha l (h.mem_iff.2 hl)
  refine good_ext (each_good hF ha) (each_good hF hb) fun v => ?_
  rw [each_of hF ha, each_of hF hb]
  exact hp _ _ (h.map _)
theorem perm3a {α : Type} (a b c : α) : [a, b, c].Perm [c, a, b] := by
  have : [a, b, c] = [a, b] ++ [c] := rfl
  rw [this]
  exact (List.perm_append_comm (l₁ := [a, b]) (l₂ := [c]))
theorem perm3b {α : Type} (a b c : α) : [a, b, c].Perm [b, c, a] := by
  have : [a, b, c] = [a] ++ [b, c] := rfl
  rw [this]
  exact (List.perm_append_comm (l₁ := [a]) (l₂ := [b, c]))

theorem filter_good {l : List UseD} (h : Good l) (p : UseD → Bool) : Good (l.filter p) := by
  have hs : (l.filter p).Sublist l := List.filter_sublist
  exact ⟨h.rise.sublist (hs.map _), fun x hx => h.rng x (hs.subset hx), fun x hx => h.may x (hs.subset hx)⟩
theorem never_of {l : List UseD} (h : Good l) (v : Int) (hn : (ofU l v).never = true) : ofU l v = ⟨true, 0, []⟩ := by
  have hm := mayU_ofU h.mayU v
  rcases (may_iff _).1 hm with ⟨h1, h2, h3⟩ | h'
  · generalize ofU l v = t at h1 h2 h3
    obtain ⟨a, b, c⟩ := t
    simp only at h1 h2 h3
    subst h1; subst h2; subst h3; rfl
  · rw [hn] at h'; simp at h'
theorem filter_of {l : List UseD} (h : Good l) (v u : Int) : ofU (l.filter fun t => t.v != v) u = if u = v then ⟨true, 0, []⟩ else ofU l u := by
  by_cases huv : u = v
  · rw [if_pos huv]
    refine ofU_none fun x hx => ?_
    have := (List.mem_filter.1 hx).2
    subst huv
    simpa using this
  · rw [if_neg huv]
    have hg := filter_good h fun t => t.v != v
    by_cases hu : u ∈ l.map (·.v)
    · obtain ⟨x, hx, rfl⟩ := List.mem_map.1 hu
      rw [ofU_mem h hx, ofU_mem hg (List.mem_filter.2 ⟨hx, by simpa using huv⟩)]
    · rw [ofU_none (xs := l) fun x hx e => hu (List.mem_map.2 ⟨x, hx, e⟩), ofU_none fun x hx e => hu (List.mem_map.2 ⟨x, (List.mem_filter.1 hx).1, e⟩)]
/-- a use taken out, by itself -/
def ownU (l : List UseD) (v : Int) : List UseD := if (ofU l v).never then [] else [⟨v, ofU l v⟩]
theorem own_good {l : List UseD} (h : Good l) (v : Int) : Good (ownU l v) := by
  unfold ownU
  cases hn : (ofU l v).never
  · simp only [Bool.false_eq_true, if_false]
    obtain ⟨x, hx, rfl⟩ := List.mem_map.1 ((ofU_in h v).1 hn)
    rw [ofU_mem h hx]
    exact ⟨by simp [Rises], fun y hy => by simp at hy; subst hy; exact h.rng x hx, fun y hy => by simp at hy; subst hy; exact h.may x hx⟩
  · simp only [if_true]; exact good_nil
theorem own_of {l : List UseD} (h : Good l) (v u : Int) : ofU (ownU l v) u = if u = v then ofU l v else ⟨true, 0, []⟩ := by
  unfold ownU
  cases hn : (ofU l v).never
  · simp only [Bool.false_eq_true, if_false]
    by_cases huv : u = v
    · rw [if_pos huv, huv]; simp [ofU]
    · rw [if_neg huv]
      refine ofU_none fun x hx => ?_
      simp only [List.mem_singleton] at hx
      subst hx
      exact fun e => huv e.symm
  · simp only [if_true]
    rw [never_of h v hn]
    split <;> exact ofU_none (by simp)
theorem sumT_never_l (t : TermD) (ht : mayB t = true) : sumT [⟨true, 0, []⟩, t] = t := by
  have : someT [⟨true, 0, []⟩, t] = someT [t] := by simp [someT]
  have e : sumT [⟨true, 0, []⟩, t] = sumT [t] := by unfold sumT; rw [this]
  rw [e, sumT_one ht]
theorem back_eq {l : List UseD} (h : Good l) (v : Int) : eachU sumT [l.filter fun t => t.v != v, ownU l v] = l := by
  have h2 : ∀ x ∈ [l.filter fun t => t.v != v, ownU l v], Good x := fun x hx => by
    simp only [List.mem_cons, List.not_mem_nil, or_false] at hx
    rcases hx with rfl | rfl
    · exact filter_good h _
    · exact own_good h v
  refine good_ext (each_good eachSum h2) h fun u => ?_
  rw [each_of eachSum h2]
  simp only [List.map_cons, List.map_nil]
  rw [filter_of h, own_of h]
  by_cases huv : u = v
  · rw [if_pos huv, if_pos huv, huv]
    exact sumT_never_l _ (mayU_ofU h.mayU v)
  · rw [if_neg huv, if_neg huv, sumT_perm (List.Perm.swap ..)]
    exact sumT_never_l _ (mayU_ofU h.mayU u)

end Go.Proofs.Ytimlbpjdgnapoaa
