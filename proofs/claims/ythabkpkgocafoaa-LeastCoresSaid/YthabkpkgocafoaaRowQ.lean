/- How inequalities that come in read. -/
import Derived.Test.YthabkpkgocafoaaRowM
import Derived.Test.YthabkpkgocafoaaIneqDef
namespace Go.Proofs.Ythabkpkgocafoaa
set_option linter.unusedVariables false
set_option linter.unusedSimpArgs false
open Go.ChangeShapes Go.WideShapes Go.ChangeAt Go.RowKit Go.Deep Go.Joins

section
variable {H : Type} {enc : TypeId × Value → H} {w : World}

instance : Inhabited IneqD := ⟨⟨0, 0, 0, 0⟩⟩
def WfQ (x : IneqD) : Prop := (-9223372036854775808 ≤ x.lv ∧ x.lv ≤ 9223372036854775807) ∧ (0 ≤ x.lc ∧ x.lc ≤ 255) ∧ (0 ≤ x.c ∧ x.c ≤ 255) ∧ (-9223372036854775808 ≤ x.r ∧ x.r ≤ 9223372036854775807)
set_option maxRecDepth 100000 in
theorem ineq_cells {base : Nat} {spare : Nat → Bool} {held : Bool} {fuel : Nat} {cs : List Value} {x : DataW H × List MemPlace} (h : DataW.trod enc Try.prog w base spare held fuel 31 cs = some x) :
    ∃ q : IneqD, cs = [.int .i64 q.lv, .int .u8 q.lc, .int .u8 q.c, .int .i64 q.r] ∧ WfQ q := by
  obtain ⟨xs, n, rfl, rfl, hl, hxl, hf⟩ := DataW.trod_struct Try.underlying31 h
  have hl4 : cs.length = 4 := hl.trans (by kernel_rfl)
  have hx3 : xs.length = 3 := hxl
  obtain ⟨a, b, c, d, rfl⟩ : ∃ a b c d, cs = [a, b, c, d] := by
    match cs, hl4 with
    | [a, b, c, d], _ => exact ⟨a, b, c, d, rfl⟩
  obtain ⟨y0, y1, y2, rfl⟩ : ∃ a b c, xs = [a, b, c] := by
    match xs, hx3 with
    | [a, b, c], _ => exact ⟨a, b, c, rfl⟩
  have k0 : DataW.trod enc Try.prog w base spare held n 29 (([a, b, c, d].drop 0).take (Try.prog.cellsOf 29)) = some y0 := hf 0 _ rfl
  rw [show Try.prog.cellsOf 29 = 2 from by kernel_rfl] at k0
  have k1 : DataW.trod enc Try.prog w base spare held n 27 (([a, b, c, d].drop 2).take (Try.prog.cellsOf 27)) = some y1 := hf 1 _ rfl
  rw [show Try.prog.cellsOf 27 = 1 from by kernel_rfl] at k1
  have k2 : DataW.trod enc Try.prog w base spare held n 3 (([a, b, c, d].drop 3).take (Try.prog.cellsOf 3)) = some y2 := hf 2 _ rfl
  rw [show Try.prog.cellsOf 3 = 1 from by kernel_rfl] at k2
  obtain ⟨zs, m, rfl, hz, _, hzl, hg⟩ := DataW.trod_struct Try.underlying29 k0
  have hz2 : zs.length = 2 := hzl
  obtain ⟨z0, z1, rfl⟩ : ∃ a b, zs = [a, b] := by
    match zs, hz2 with
    | [a, b], _ => exact ⟨a, b, rfl⟩
  have j0 : DataW.trod enc Try.prog w base spare held m 3 (([a, b].drop 0).take (Try.prog.cellsOf 3)) = some z0 := hg 0 _ rfl
  rw [show Try.prog.cellsOf 3 = 1 from by kernel_rfl] at j0
  have j1 : DataW.trod enc Try.prog w base spare held m 27 (([a, b].drop 1).take (Try.prog.cellsOf 27)) = some z1 := hg 1 _ rfl
  rw [show Try.prog.cellsOf 27 = 1 from by kernel_rfl] at j1
  obtain ⟨n0, e0, _, w0⟩ := DataW.trod_int Try.underlying3 j0
  obtain ⟨n1, e1, _, w1⟩ := DataW.trod_int Try.underlying27 j1
  obtain ⟨n2, e2, _, w2⟩ := DataW.trod_int Try.underlying27 k1
  obtain ⟨n3, e3, _, w3⟩ := DataW.trod_int Try.underlying3 k2
  injection e0 with e0 _
  injection e1 with e1 _
  injection e2 with e2 _
  injection e3 with e3 _
  subst e0; subst e1; subst e2; subst e3
  exact ⟨⟨n0, n1, n2, n3⟩, rfl, bounds_i64 w0, bounds_u8 w1, bounds_u8 w2, bounds_i64 w3⟩

/-- the inequality that came in -/
def IneqIn (v : Value) : Prop := ∃ q : IneqD, v = .agg #[.int .i64 q.lv, .int .u8 q.lc, .int .u8 q.c, .int .i64 q.r] ∧ WfQ q
set_option maxRecDepth 100000 in
theorem rd_ineq {r : Reach} {b0 : Nat} {v : Value} {d : DataW H} {ps : List MemPlace} (hval : Value.okWide Try.prog w r b0 31 v) (h : DataW.Trod enc Try.prog w 0 (fun _ => true) true 31 v d ps) : IneqIn v := by
  obtain ⟨cs, rfl, hsz⟩ := okWide_struct Try.underlying31 hval
  obtain ⟨fuel, hf⟩ := h
  obtain ⟨q, hq, hw⟩ := ineq_cells hf
  refine ⟨q, ?_, hw⟩
  have : cs.toList = [.int .i64 q.lv, .int .u8 q.lc, .int .u8 q.c, .int .i64 q.r] := hq
  rw [show cs = #[.int .i64 q.lv, .int .u8 q.lc, .int .u8 q.c, .int .i64 q.r] from Array.toList_inj.mp this]

/-- the slice of inequalities that came in -/
def IneqsIn (w : World) (v : Value) : Prop := ∃ A n c xs, v = .slice A n c ∧ IneqsV w w.heap.size A n c xs ∧ ∀ x ∈ xs, WfQ x
set_option maxRecDepth 100000 in
theorem rd_ineqs {r : Reach} {b0 : Nat} {v : Value} {d : DataW H} {ps : List MemPlace} (hval : Value.okWide Try.prog w r b0 35 v) (h : DataW.Trod enc Try.prog w 0 (fun _ => true) true 35 v d ps) : IneqsIn w v := by
  obtain ⟨A, n, c, rfl⟩ := okWide_slice Try.underlying35 hval
  obtain ⟨fuel, hf⟩ := h
  rcases open_slice Try.underlying35 hf with ⟨hcs, _⟩ | ⟨a, l, c', m, n', D, Pl, hcs, hb, hl, hm, hmm, hx, hi⟩
  · simp [Value.cells] at hcs
    obtain ⟨rfl, rfl, rfl⟩ := hcs
    exact ⟨none, 0, 0, [], rfl, IneqsV.nil, by simp⟩
  · simp [Value.cells] at hcs
    obtain ⟨rfl, rfl, rfl⟩ := hcs
    simp only [if_true] at hmm
    subst hmm
    have hall : ∀ i, i < n → ∃ x : IneqD, ∃ b off, a = ⟨b, off, none⟩ ∧ b < w.heap.size ∧ IneqAt w b (off + i * 4) x ∧ WfQ x := by
      intro i hin
      obtain ⟨cs', hc, ht'⟩ := hi i (by omega)
      rw [show Try.prog.cellsOf 31 = 4 from by kernel_rfl] at hc
      obtain ⟨q, rfl, hw⟩ := ineq_cells ht'
      obtain ⟨_, hcl, hat⟩ := World.cells?_some hc
      have h0 := hat 0 (by omega)
      have h1 := hat 1 (by omega)
      have h2 := hat 2 (by omega)
      have h3 := hat 3 (by omega)
      simp only [Go.Deep.add_add] at h0 h1 h2 h3
      obtain ⟨b, off, sp⟩ := a
      have hs : sp = none := by
        obtain ⟨cs0, hc0, ht0⟩ := hi 0 (by omega)
        rw [show Try.prog.cellsOf 31 = 4 from by kernel_rfl] at hc0
        obtain ⟨q0, rfl, _⟩ := ineq_cells ht0
        have d0 := (World.cells?_some hc0).2.2 0 (by omega)
        simp only [Nat.zero_mul, Nat.add_zero, Addr.add, if_true] at d0
        exact spot_none d0
      subst hs
      rw [addr_add] at h0 h1 h2 h3
      exact ⟨q, b, off, rfl, World.block_lt_of_cell? _ _ h0, ⟨h0, by rw [Nat.add_assoc]; exact h1, by rw [Nat.add_assoc]; exact h2, by rw [Nat.add_assoc]; exact h3⟩, hw⟩
    obtain ⟨f, hf⟩ := choose_lt hall
    refine ⟨some a, n, m, (List.range n).map f, rfl, ⟨by simp, hl, hm, fun hn => ?_⟩, fun x hx => ?_⟩
    · obtain ⟨b, off, rfl, hb, _⟩ := hf 0 hn
      refine ⟨b, off, rfl, hb, fun i hi => ?_⟩
      rw [List.length_map, List.length_range] at hi
      obtain ⟨b', off', e, _, h', _⟩ := hf i hi
      injection e with e1 e2 _
      subst e1; subst e2
      simpa using h'
    · obtain ⟨i, hi, rfl⟩ := List.mem_map.1 hx
      obtain ⟨_, _, _, _, _, hw⟩ := hf i (List.mem_range.1 hi)
      exact hw
end

end Go.Proofs.Ythabkpkgocafoaa
