/- Plain law for LeastCores: what the core is. -/
import Derived.Test.YthabkpkgocafoaaLawK
namespace Go.Proofs.Ythabkpkgocafoaa
set_option linter.unusedVariables false
set_option linter.unusedSimpArgs false

/-- the inequalities that a core names -/
def picks (xs : List IneqD) (core : List Int) : List IneqD := core.map fun z => xs.getD z.toNat ⟨0, 0, 0, 0⟩

theorem nodup_erase {l : List Int} (h : l.Nodup) {k : Nat} (hk : k < l.length) : l[k] ∉ l.eraseIdx k := by
  rw [List.eraseIdx_eq_take_drop_succ]
  have e : l = l.take k ++ l[k] :: l.drop (k + 1) := by rw [← List.drop_eq_getElem_cons hk, List.take_append_drop]
  have h2 : (l.take k ++ l[k] :: l.drop (k + 1)).Nodup := by rw [← e]; exact h
  intro hm
  obtain ⟨h3, h4, h5⟩ := List.nodup_append.1 h2
  rcases List.mem_append.1 hm with q | q
  · exact h5 _ q _ List.mem_cons_self rfl
  · exact (List.nodup_cons.1 h4).1 q

structure CoreOk (xs : List IneqD) (low : List Int) (core : List Int) : Prop where
  rng : ∀ z ∈ core, 0 ≤ z ∧ z < xs.length
  up : ∀ (j : Nat) (h : j + 1 < core.length), core[j] < core[j + 1]
  none : ∀ asg, ¬ SolvL (picks xs core) low asg
  any : ∀ k, k < core.length → ∃ asg, SolvL ((picks xs core).eraseIdx k) low asg

theorem core_ok {n : Nat} {low : List Int} {xs : List IneqD} {a core : List Int} {e : Int} (h : SolveR (n : Int) low xs a core e) (hok : OkS (n : Int) low xs) (he : e = 40) : CoreOk xs (low0 n low) core := by
  obtain ⟨is, why, hE, i, x, l, hi, hr, hc, hl, rfl⟩ := h.core he
  have hlow3 : ∀ v, v < (low0 n low).length → (low0 n low).getD v 0 ≤ 3 := fun v hv => (low0_rng hok _ (getD_mem hv)).2
  obtain ⟨h1, h2, h3, h4⟩ := hE.core hlow3 hi hr hc hl
  generalize hcore : (natI (i :: l)).mergeSort (fun a b => decide (a ≤ b)) = core
  have hperm : core.Perm (natI (i :: l)) := by rw [← hcore]; exact List.mergeSort_perm _ _
  have hmem : ∀ z, z ∈ core ↔ ∃ j ∈ i :: l, z = (j : Int) := fun z => by
    rw [hperm.mem_iff]
    unfold natI
    rw [List.mem_map]
    exact ⟨fun ⟨j, q1, q2⟩ => ⟨j, q1, q2.symm⟩, fun ⟨j, q1, q2⟩ => ⟨j, q1, q2.symm⟩⟩
  have hnd0 : (natI (i :: l)).Nodup := List.Pairwise.map _ (fun a b hab e => hab (by omega)) h1
  have hnd : core.Nodup := hperm.nodup_iff.2 hnd0
  have hsort : core.Pairwise (fun a b => a ≤ b) := by
    rw [← hcore]
    have := List.pairwise_mergeSort (le := fun a b : Int => decide (a ≤ b)) (fun a b c q1 q2 => by simp at q1 q2 ⊢; omega) (fun a b => by simp; omega) (natI (i :: l))
    simpa using this
  have hget : ∀ j, j < xs.length → xs[j]? = some (xs.getD j ⟨0, 0, 0, 0⟩) := fun j hj => by simp [List.getD, hj]
  refine ⟨fun z hz => ?_, fun j hj => ?_, fun asg ha => ?_, fun k hk => ?_⟩
  · obtain ⟨j, hj, rfl⟩ := (hmem z).1 hz
    have := h2 j hj
    omega
  · have q1 := List.pairwise_iff_getElem.1 hsort j (j + 1) (by omega) hj (by omega)
    have q2 := List.pairwise_iff_getElem.1 hnd j (j + 1) (by omega) hj (by omega)
    omega
  · refine h3 asg ha.len ha.low fun j hj y hy => ha.hold y ?_
    have hm := (hmem (j : Int)).2 ⟨j, hj, rfl⟩
    refine List.mem_map.2 ⟨(j : Int), hm, ?_⟩
    rw [Int.toNat_natCast]
    have := hget j (h2 j hj)
    rw [hy] at this
    exact (Option.some.inj this).symm
  · obtain ⟨j0, hj0, e0⟩ := (hmem core[k]).1 (List.getElem_mem hk)
    obtain ⟨asg, a1, a2, a3⟩ := h4 j0 hj0
    refine ⟨asg, a1, a2, fun y hy => ?_⟩
    have hm : y ∈ (core.eraseIdx k).map fun z => xs.getD z.toNat ⟨0, 0, 0, 0⟩ := by
      rw [List.eraseIdx_eq_take_drop_succ, List.map_append, List.map_take, List.map_drop, ← List.eraseIdx_eq_take_drop_succ]
      exact hy
    obtain ⟨z, hz, rfl⟩ := List.mem_map.1 hm
    obtain ⟨j, hj, rfl⟩ := (hmem z).1 (List.mem_of_mem_eraseIdx hz)
    refine a3 j hj (fun q => ?_) _ (by rw [Int.toNat_natCast]; exact hget j (h2 j hj))
    subst q
    rw [← e0] at hz
    exact nodup_erase hnd hk hz

end Go.Proofs.Ythabkpkgocafoaa
