/- How slices of multiplicities that come in read. -/
import Derived.Test.YthabkpkgocafoaaRow
import Derived.Test.YthabkpkgocafoaaTermB
import Derived.SizedLaws
import Derived.Deep.Slices
import Derived.Deep.Fields
import Derived.Lib.SmallJoins
namespace Go.Proofs.Ythabkpkgocafoaa
set_option linter.unusedVariables false
set_option linter.unusedSimpArgs false
open Go.ChangeShapes Go.WideShapes Go.ChangeAt Go.RowKit Go.Deep Go.Joins

section
variable {H : Type} {enc : TypeId × Value → H} {w : World}

theorem addr_add (b o j : Nat) : (Addr.add ⟨b, o, none⟩ j) = ⟨b, o + j, none⟩ := by unfold Addr.add; split <;> simp_all

/-- a slice of integers in a cell, or by value -/
theorem rd_ints_c {P : Program} {t e : TypeId} {k : IntKind} {m : Nat} {v : Value} {y : DataW H × List MemPlace} (ht : P.underlying t = some (.slice e)) (he : P.underlying e = some (.int k)) (hc : P.cellsOf e = 1)
    (h : DataW.trod enc P w 0 (fun _ => true) true m t [v] = some y) : ∃ A n c us, v = .slice A n c ∧ RdI k w w.heap.size A n c us ∧ ∀ u ∈ us, (Lit.int k u).wf = true := by
  rcases open_ints ht he hc h with ⟨hcs, _⟩ | ⟨a, l, c', zs, hcs, _, hl, hm, hz, _, hcell, hwz⟩
  · injection hcs with hcs _
    subst hcs
    exact ⟨none, 0, 0, [], rfl, RdI.nil, by simp⟩
  · injection hcs with hcs _
    subst hcs
    simp only [if_true] at hz
    have hlen : (zs.take l).length = l := by rw [List.length_take, hz]; omega
    refine ⟨some a, l, c', zs.take l, rfl, ⟨rd_of_cells 1 (by omega) (by rw [List.length_map, hlen, Nat.mul_one]) (fun i u hu => ?_), hl, hm⟩, fun u hu => hwz u (List.mem_of_mem_take hu)⟩
    rw [List.getElem?_map] at hu
    obtain ⟨z, hz', rfl⟩ := Option.map_eq_some_iff.1 hu
    have hi : i < l := by
      have := (List.getElem?_eq_some_iff.1 hz').1
      omega
    rw [List.getElem?_take, if_pos hi] at hz'
    have := hcell i (by omega)
    rw [this]
    simp [List.getD, hz']

theorem open_slice_fields {P : Program} {base : Nat} {spare : Nat → Bool} {held : Bool} {t e : TypeId} {fs : Array Field} {fuel : Nat} {cs : List Value} {x : DataW H × List MemPlace} (ht : P.underlying t = some (.slice e)) (he : P.underlying e = some (.struct fs))
    (hone : oneCellFields P fs = true) (hC : P.cellsOf e = fs.size) (h : DataW.trod enc P w base spare held fuel t cs = some x) :
    (cs = [.slice none 0 0] ∧ x = (.nil, [])) ∨
    ∃ (a : Addr) (len cap m : Nat) (D : Nat → DataW H), cs = [.slice (some a) len cap] ∧ len ≤ cap ∧ cap ≤ maxLen ∧ m = (if spare a.block then cap else len) ∧
      x.1 = .slice ((List.range len).map D) ((List.range (m - len)).map fun j => D (len + j)) ∧
      ∀ i, i < m → ∃ n, ∀ (j : Nat) (f : Field), fs[j]? = some f → ∃ (v : Value) (y : DataW H × List MemPlace), w.cell? (a.add (i * fs.size + j)) = some v ∧ DataW.trod enc P w base spare held n f.type [v] = some y := by
  rcases open_slice ht h with h0 | ⟨a, len, cap, m, n, D, Pl, hcs, hb, hl, hm, hmm, hx, hi⟩
  · exact .inl h0
  · refine .inr ⟨a, len, cap, m, D, hcs, hl, hm, hmm, by rw [hx], fun i him => ?_⟩
    obtain ⟨cs', hc, ht'⟩ := hi i him
    rw [hC] at hc
    obtain ⟨ys, n', hn', hy, hlen, hyl, hf⟩ := DataW.trod_struct he ht'
    obtain ⟨_, hcl, hat⟩ := World.cells?_some hc
    refine ⟨n', fun j f hj => ?_⟩
    obtain ⟨ho, hk⟩ := hone_of hone j f hj
    have hjl : j < fs.size := (Array.getElem?_eq_some_iff.1 hj).1
    have hcell := hat j hjl
    have h1 := hf j f hj
    rw [ho, hk] at h1
    have hone' : (cs'.drop j).take 1 = [cs'[j]'(by omega)] := by
      rw [List.drop_eq_getElem_cons (by omega)]
      rfl
    rw [hone'] at h1
    have hys : ys[j]? = some (ys[j]'(by omega)) := List.getElem?_eq_getElem (by omega)
    refine ⟨cs'[j]'(by omega), _, ?_, h1.trans hys⟩
    rw [← Go.Deep.add_add, hcell, List.getElem?_eq_getElem (by omega)]

instance : Inhabited TermD := ⟨⟨false, 0, []⟩⟩

/-- the slice of multiplicities that came in -/
def MultsIn (w : World) (v : Value) : Prop := ∃ A n c us, v = .slice A n c ∧ RdI .u8 w w.heap.size A n c us ∧ ∀ u ∈ us, 0 ≤ u
set_option maxRecDepth 100000 in
theorem rd_mults {r : Reach} {b0 : Nat} {v : Value} {d : DataW H} {ps : List MemPlace} (hval : Value.okWide Try.prog w r b0 22 v) (h : DataW.Trod enc Try.prog w 0 (fun _ => true) true 22 v d ps) : MultsIn w v := by
  obtain ⟨A, n, c, us, rfl, hr, hnc, hcm, hl, hwf⟩ := rd_ints Try.underlying22 Try.underlying27 (by kernel_rfl) hval h
  exact ⟨A, n, c, us, rfl, ⟨hr, hnc, hcm⟩, fun u hu => (bounds_u8 (hwf u hu)).1⟩

/-- the Mu that came in -/
def MuIn (v : Value) : Prop := ∃ V C : Int, v = .agg #[.int .i64 V, .int .u8 C] ∧ 0 ≤ C ∧ C ≤ 255 ∧ -9223372036854775808 ≤ V ∧ V ≤ 9223372036854775807
set_option maxRecDepth 100000 in
theorem rd_mu {r : Reach} {b0 : Nat} {v : Value} {d : DataW H} {ps : List MemPlace} (hval : Value.okWide Try.prog w r b0 29 v) (h : DataW.Trod enc Try.prog w 0 (fun _ => true) true 29 v d ps) : MuIn v := by
  obtain ⟨v0, v1, y0, y1, n, rfl, _, _, t0, t1⟩ := open_agg2 Try.underlying29 (by kernel_rfl) (by kernel_rfl) hval h
  obtain ⟨n0, e0, _, w0⟩ := DataW.trod_int Try.underlying3 t0
  obtain ⟨n1, e1, _, w1⟩ := DataW.trod_int Try.underlying27 t1
  injection e0 with e0 _
  injection e1 with e1 _
  subst e0; subst e1
  exact ⟨n0, n1, rfl, (bounds_u8 w1).1, (bounds_u8 w1).2, (bounds_i64 w0).1, (bounds_i64 w0).2⟩

end
end Go.Proofs.Ythabkpkgocafoaa
