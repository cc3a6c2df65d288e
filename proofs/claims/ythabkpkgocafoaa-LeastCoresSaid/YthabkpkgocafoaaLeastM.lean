/- The solver's lists by variables in memory: a slice of slices that own their rows. -/
import Derived.Test.YthabkpkgocafoaaLeastD
namespace Go.Proofs.Ythabkpkgocafoaa
set_option linter.unusedVariables false
set_option linter.unusedSimpArgs false
open Go.RowKit Go.Conc

theorem ownsRow_block {w w' : World} {base : Nat} {e : TypeId} {size : Nat} {v : Value} {n : Nat} {xs : List Value} (h : w.ownsRow base e size v n xs) (hb : ∀ b, v.ownBlock = some b → w'.heap[b]? = w.heap[b]?) : w'.ownsRow base e size v n xs := by
  refine ⟨h.1, ?_⟩
  rcases h.2 with q | ⟨g, cap, cur, e1, e2, e3, e4⟩
  · exact Or.inl q
  · exact Or.inr ⟨g, cap, cur, e1, e2, by rw [hb g (by rw [e1]; rfl)]; exact e3, e4⟩
theorem ownsRow_lt {w : World} {base : Nat} {e : TypeId} {size : Nat} {v : Value} {n : Nat} {xs : List Value} (h : w.ownsRow base e size v n xs) {b : Nat} (hb : v.ownBlock = some b) : base ≤ b ∧ b < w.heap.size := by
  rcases h.2 with ⟨rfl, _⟩ | ⟨g, cap, cur, e1, e2, e3, e4⟩
  · cases hb
  · rw [e1] at hb
    cases hb
    exact ⟨e2, (Array.getElem?_eq_some_iff.1 e3).1⟩

/-- block F holds a slice for each variable; their rows lie at or above base, each in a block of its own -/
structure FromM (w : World) (F base : Nat) (vs : List Value) (fr : Nat → List Int) : Prop where
  blk : Blk w F 23 vs.toArray
  low : F < base
  own : ∀ j (h : j < vs.length), w.ownsRow base 3 1 vs[j] (fr j).length ((fr j).map (Value.int .i64))
  sep : ∀ i j b (hi : i < vs.length) (hj : j < vs.length), vs[i].ownBlock = some b → vs[j].ownBlock = some b → i = j
section
variable {w w' : World} {F base : Nat} {vs : List Value} {fr : Nat → List Int}
theorem FromM.off {S : List Nat} (h : FromM w F base vs fr) (ho : Off S w w') (hF : F ∉ S) (hS : ∀ s ∈ S, s < base) : FromM w' F base vs fr :=
  ⟨h.blk.off ho hF, h.low, fun j hj => ownsRow_block (h.own j hj) fun b hb => by
    have := ownsRow_lt (h.own j hj) hb
    exact ho.block b this.2 fun e => by have := hS b e; omega, h.sep⟩
theorem FromM.cell (h : FromM w F base vs fr) (j : Nat) (hj : j < vs.length) : w.cell? ⟨F, j, none⟩ = some vs[j] := by
  rw [Blk.cell h.blk]
  simp [hj]
theorem FromM.frozen (h : FromM w F base vs fr) (j : Nat) : w.frozen? ⟨F, j, none⟩ = false := h.blk.frozen j
theorem FromM.row (h : FromM w F base vs fr) (j : Nat) (hj : j < vs.length) : ∃ A c, vs[j] = .slice A (fr j).length c ∧ RdI .i64 w w.heap.size A (fr j).length c (fr j) := by
  have ho := h.own j hj
  obtain ⟨A, c, e⟩ := ownsRow_form ho
  rw [e] at ho
  exact ⟨A, c, e, RdI.of_own ho⟩
/-- an element more, and its slice laid into its cell -/
theorem FromM.add (h : FromM w F base vs fr) {j : Nat} (hj : j < vs.length) {v' : Value} {u : Int} (ho : w'.ownsRow base 3 1 v' ((fr j).length + 1) ((fr j).map (Value.int .i64) ++ [.int .i64 u])) (hg : w.grownBy w' vs[j].ownBlock) (hn : v'.ownBlock = vs[j].ownBlock ∨ v'.ownBlock = some w.heap.size) :
    FromM (w'.setCell ⟨F, j, none⟩ v') F base (vs.set j v') (fun k => if k = j then fr j ++ [u] else fr k) := by
  have hFl := h.blk.lt
  refine ⟨?_, h.low, fun k hk => ?_, fun i k b hi hk ei ek => ?_⟩
  · have := (h.blk.grown hg (fun e => by have := ownsRow_lt (h.own j hj) e.symm; have := h.low; omega)).set_ j v'
    simpa using this
  · have hk' : k < vs.length := by simpa using hk
    by_cases e : k = j
    · subst e
      rw [List.getElem_set, if_pos rfl]
      simp only [if_true]
      have := ownsRow_setCell_below ho (a := ⟨F, k, none⟩) h.low v'
      simpa using this
    · rw [List.getElem_set, if_neg (fun q => e q.symm)]
      simp only [if_neg e]
      have hold := h.own k hk'
      refine ownsRow_setCell_below (ownsRow_block hold fun b hb => ?_) (a := ⟨F, j, none⟩) h.low v'
      have hlt := ownsRow_lt hold hb
      exact hg.block b hlt.2 fun e' => e (h.sep k j b hk' hj hb e'.symm)
  · have hi' : i < vs.length := by simpa using hi
    have hk' : k < vs.length := by simpa using hk
    rw [List.getElem_set] at ei ek
    by_cases e1 : j = i
    · by_cases e2 : j = k
      · omega
      · rw [if_pos e1] at ei
        rw [if_neg e2] at ek
        exfalso
        rcases hn with q | q
        · rw [q] at ei
          exact e2 (h.sep j k b hj hk' ei ek)
        · rw [q] at ei
          have := ownsRow_lt (h.own k hk') ek
          simp at ei
          omega
    · rw [if_neg e1] at ei
      by_cases e2 : j = k
      · rw [if_pos e2] at ek
        exfalso
        rcases hn with q | q
        · rw [q] at ek
          exact e1 (h.sep j i b hj hi' ek ei)
        · rw [q] at ek
          have := ownsRow_lt (h.own i hi') ei
          simp at ek
          omega
      · rw [if_neg e2] at ek
        exact h.sep i k b hi' hk' ei ek
end

end Go.Proofs.Ythabkpkgocafoaa
