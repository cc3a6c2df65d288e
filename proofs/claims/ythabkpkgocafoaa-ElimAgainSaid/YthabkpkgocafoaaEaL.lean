/- Texts of this claim, laid one behind the other: Row, RowM, RowQ, RowI. -/
import Derived.Test.YthabkpkgocafoaaRows
import Derived.WalkKit
import Derived.ProofKit
import Derived.OpenShut
import Derived.ShutString
import Derived.ChangeOld
import Derived.Below
import Derived.Test.YthabkpkgocafoaaBase
import Derived.Test.YthabkpkgocafoaaTermB
import Derived.SizedLaws
import Derived.Deep.Slices
import Derived.Deep.Fields
import Derived.Lib.SmallJoins
import Derived.Test.YthabkpkgocafoaaEaA
/- The step from a walk to a row, for every law: it returns true, and nothing that was there has turned. -/
namespace Go.Proofs.Ythabkpkgocafoaa
set_option linter.unusedVariables false
set_option linter.unusedSimpArgs false
open Go.ChangeShapes Go.WideShapes Go.ChangeAt Go.RowKit
open Go.ChangeMaps (open_string shut_string)

theorem own : ownKnob Try.prog.godebug = none := by kernel_rfl
theorem laidOut : laidOutB Try.prog = true := by kernel_rfl

section
variable {H : Type} {enc : TypeId × Value → H} {P : Program}

theorem trodAll_lt {w : World} {base : Nat} {spare : Nat → Bool} {held : Bool} : ∀ (ts : List TypeId) (vs : List Value) (ds : List (DataW H)) (ps : List MemPlace),
    DataW.TrodAll enc P w base spare held ts vs ds ps → ∀ p ∈ ps, p.block < w.heap.size
  | [], [], [], ps, h => by have h : ps = [] := h; subst h; intro p hp; cases hp
  | t :: ts, v :: vs, d :: ds, ps, h => by
    obtain ⟨p, q, ⟨m, hm⟩, hr, rfl⟩ := h
    intro x hx
    rcases List.mem_append.1 hx with hx | hx
    · exact DataW.trod_lt m _ _ _ hm x hx
    · exact trodAll_lt ts vs ds q hr x hx
  | [], [], _ :: _, _, h => h.elim
  | [], _ :: _, _, _, h => h.elim
  | _ :: _, [], _, _, h => h.elim
  | _ :: _, _ :: _, [], _, h => h.elim

theorem trodAll_below (hl : laidOutB P = true) {W W' : World} (hb : Below W.heap.size W W') : ∀ (ts : List TypeId) (vs : List Value) (ds : List (DataW H)) (ps : List MemPlace),
    ts.all (fun t => P.readableRec t && decide (t < P.types.size)) = true → (∀ p ∈ ps, p.block < W.heap.size) →
    DataW.TrodAll enc P W 0 (fun _ => true) true ts vs ds ps → DataW.TrodAll enc P W' 0 (fun b => decide (b < W.heap.size)) true ts vs ds ps
  | [], [], [], _, _, _, h => h
  | t :: ts, v :: vs, d :: ds, ps, ht, hlt, h => by
    obtain ⟨p, q, h0, hr, rfl⟩ := h
    rw [List.all_cons, Bool.and_eq_true, Bool.and_eq_true] at ht
    exact ⟨p, q, Below.trod hl ht.1.1 (of_decide_eq_true ht.1.2) h0 hb (fun x hx => hlt x (List.mem_append.2 (.inl hx))),
      trodAll_below hl hb ts vs ds q ht.2 (fun x hx => hlt x (List.mem_append.2 (.inr hx))) hr, rfl⟩
  | [], [], _ :: _, _, _, _, h => h.elim
  | [], _ :: _, _, _, _, _, h => h.elim
  | _ :: _, [], _, _, _, _, h => h.elim
  | _ :: _, _ :: _, [], _, _, _, h => h.elim

/-- what a law's row asks of the world behind the call -/
theorem law_post {f : Func} {s : ChangeSpec} {tb : TypeId} (hl : laidOutB P = true) (hts : f.params.toList.all (fun t => P.readableRec t && decide (t < P.types.size)) = true)
    (hvs : s.vars = []) (hrt : f.resultTypes = #[tb]) (htb : P.underlying tb = some .bool)
    {W W' : World} {args : Array Value} {ds : List (DataW H)} {before : List MemPlace}
    (hW : DataW.Whole enc P f.params.toList s.vars false W args.toList ds [] before)
    (hres : (s.fn H (ds ++ [])).results = [.lit (.bool true)]) (hargs : (s.fn H (ds ++ [])).args = ds) (hvars : (s.fn H (ds ++ [])).vars = [])
    (bel : Below W.heap.size W W') : s.post enc P f false true false false W args (.bool true) W' := by
  have hW' := hW
  obtain ⟨p, q, hA, hV, rfl, _, _⟩ := hW
  rw [hvs] at hV
  obtain ⟨_, rfl⟩ := trodVars_none hV
  refine ⟨_, _, _, [], p, [], hW', ?_, ?_, ?_, bel.frame _, fun h => by cases h⟩
  · rw [hres, hrt]
    exact trodAll_mk1 (shut_bool htb _)
  · rw [hargs]
    exact trodAll_below hl bel _ _ _ _ hts (trodAll_lt _ _ _ _ hA) hA
  · rw [hvars, hvs]
    rfl
theorem spot_none {w : World} {b o : Nat} {sp : Option Nat} {v : Value} (h : w.cell? ⟨b, o, sp⟩ = some v) : sp = none := World.cell?_spot h
theorem rd_of_cells {w : World} {a : Addr} {n : Nat} {xs : List Value} (size : Nat) (hsz : 0 < size) (hl : xs.length = n * size) (hc : ∀ i u, xs[i]? = some u → w.cell? (a.add i) = some u) : Rd w w.heap.size size (some a) n xs := by
  refine ⟨hl, fun hn => ?_⟩
  obtain ⟨b, o, sp⟩ := a
  have h0 : 0 < xs.length := by rw [hl]; exact Nat.mul_pos hn hsz
  have hc0 := hc 0 _ (List.getElem?_eq_getElem h0)
  have hs : sp = none := by
    have : (Addr.add ⟨b, o, sp⟩ 0) = ⟨b, o, sp⟩ := by simp [Addr.add]
    rw [this] at hc0
    exact World.cell?_spot hc0
  subst hs
  refine ⟨b, o, rfl, ?_, fun j u hu => ?_⟩
  · have := World.block_lt_of_cell? _ _ hc0
    simpa [Addr.add] using this
  · have := hc j u hu
    rw [show (Addr.add ⟨b, o, none⟩ j) = ⟨b, o + j, none⟩ from by unfold Addr.add; split <;> simp_all] at this
    exact this

/-- a slice of integers that came in -/
theorem rd_ints {r : Reach} {b0 : Nat} {w : World} {t e : TypeId} {k : IntKind} {v : Value} {d : DataW H} {ps : List MemPlace} (ht : P.underlying t = some (.slice e)) (he : P.underlying e = some (.int k)) (hc : P.cellsOf e = 1)
    (hval : Value.okWide P w r b0 t v) (h : DataW.Trod enc P w 0 (fun _ => true) true t v d ps) :
    ∃ (A : Option Addr) (n c : Nat) (us : List Int), v = .slice A n c ∧ Rd w w.heap.size 1 A n (us.map (Value.int k)) ∧ n ≤ c ∧ c ≤ maxLen ∧ us.length = n ∧ ∀ u ∈ us, (Lit.int k u).wf = true := by
  obtain ⟨A, n, c, rfl⟩ := okWide_slice ht hval
  obtain ⟨fuel, hf⟩ := h
  rcases open_ints ht he hc hf with ⟨hcs, _⟩ | ⟨a, l, c', zs, hcs, _, hl, hm, hz, _, hcell, hwz⟩
  · simp [Value.cells] at hcs
    obtain ⟨rfl, rfl, rfl⟩ := hcs
    exact ⟨none, 0, 0, [], rfl, Rd.nil, Nat.le_refl _, Nat.zero_le _, rfl, by simp⟩
  · simp [Value.cells] at hcs
    obtain ⟨rfl, rfl, rfl⟩ := hcs
    simp only [if_true] at hz
    have hlen : (zs.take n).length = n := by rw [List.length_take, hz]; omega
    refine ⟨_, n, c, zs.take n, rfl, rd_of_cells 1 (by omega) (by rw [List.length_map, hlen, Nat.mul_one]) (fun i u hu => ?_), hl, hm, hlen, fun u hu => hwz u (List.mem_of_mem_take hu)⟩
    rw [List.getElem?_map] at hu
    obtain ⟨z, hz', rfl⟩ := Option.map_eq_some_iff.1 hu
    have hi : i < n := by
      have := (List.getElem?_eq_some_iff.1 hz').1
      omega
    rw [List.getElem?_take, if_pos hi] at hz'
    have := hcell i (by omega)
    rw [this]
    simp [List.getD, hz']

end

end Go.Proofs.Ythabkpkgocafoaa

/- How slices of multiplicities that come in read. -/
namespace Go.Proofs.Ythabkpkgocafoaa
set_option linter.unusedVariables false
set_option linter.unusedSimpArgs false
open Go.ChangeShapes Go.WideShapes Go.ChangeAt Go.RowKit Go.Deep Go.Joins

section
variable {H : Type} {enc : TypeId × Value → H} {w : World}

theorem addr_add (b o j : Nat) : (Addr.add ⟨b, o, none⟩ j) = ⟨b, o + j, none⟩ := by unfold Addr.add; split <;> simp_all

/-- a slice of integers in a cell, or by value -/
theorem rd_ints_c {P : Program} {t e : TypeId} {k : IntKind} {m : Nat} {v : Value} {y : DataW H × List MemPlace} (ht : P.underlying t = some (.slice e)) (he : P.underlying e = some (.int k)) (hc : P.cellsOf e = 1)
    (h : DataW.trod enc P w 0 (fun _ => true) true m t [v] = some y) : ∃ A n c us, v = .slice A n c ∧ RdI k w w.heap.size A n c us ∧ ∀ u ∈ us, (Lit.int k u).wf = true := by
  rcases open_ints ht he hc h with ⟨hcs, _⟩ | ⟨a, l, c', zs, hcs, _, hl, hm, hz, _, hcell, hwz⟩
  · injection hcs with hcs _
    subst hcs
    exact ⟨none, 0, 0, [], rfl, RdI.nil, by simp⟩
  · injection hcs with hcs _
    subst hcs
    simp only [if_true] at hz
    have hlen : (zs.take l).length = l := by rw [List.length_take, hz]; omega
    refine ⟨some a, l, c', zs.take l, rfl, ⟨rd_of_cells 1 (by omega) (by rw [List.length_map, hlen, Nat.mul_one]) (fun i u hu => ?_), hl, hm⟩, fun u hu => hwz u (List.mem_of_mem_take hu)⟩
    rw [List.getElem?_map] at hu
    obtain ⟨z, hz', rfl⟩ := Option.map_eq_some_iff.1 hu
    have hi : i < l := by
      have := (List.getElem?_eq_some_iff.1 hz').1
      omega
    rw [List.getElem?_take, if_pos hi] at hz'
    have := hcell i (by omega)
    rw [this]
    simp [List.getD, hz']

theorem open_slice_fields {P : Program} {base : Nat} {spare : Nat → Bool} {held : Bool} {t e : TypeId} {fs : Array Field} {fuel : Nat} {cs : List Value} {x : DataW H × List MemPlace} (ht : P.underlying t = some (.slice e)) (he : P.underlying e = some (.struct fs))
    (hone : oneCellFields P fs = true) (hC : P.cellsOf e = fs.size) (h : DataW.trod enc P w base spare held fuel t cs = some x) :
    (cs = [.slice none 0 0] ∧ x = (.nil, [])) ∨
    ∃ (a : Addr) (len cap m : Nat) (D : Nat → DataW H), cs = [.slice (some a) len cap] ∧ len ≤ cap ∧ cap ≤ maxLen ∧ m = (if spare a.block then cap else len) ∧
      x.1 = .slice ((List.range len).map D) ((List.range (m - len)).map fun j => D (len + j)) ∧
      ∀ i, i < m → ∃ n, ∀ (j : Nat) (f : Field), fs[j]? = some f → ∃ (v : Value) (y : DataW H × List MemPlace), w.cell? (a.add (i * fs.size + j)) = some v ∧ DataW.trod enc P w base spare held n f.type [v] = some y := by
  rcases open_slice ht h with h0 | ⟨a, len, cap, m, n, D, Pl, hcs, hb, hl, hm, hmm, hx, hi⟩
  · exact .inl h0
  · refine .inr ⟨a, len, cap, m, D, hcs, hl, hm, hmm, by rw [hx], fun i him => ?_⟩
    obtain ⟨cs', hc, ht'⟩ := hi i him
    rw [hC] at hc
    obtain ⟨ys, n', hn', hy, hlen, hyl, hf⟩ := DataW.trod_struct he ht'
    obtain ⟨_, hcl, hat⟩ := World.cells?_some hc
    refine ⟨n', fun j f hj => ?_⟩
    obtain ⟨ho, hk⟩ := hone_of hone j f hj
    have hjl : j < fs.size := (Array.getElem?_eq_some_iff.1 hj).1
    have hcell := hat j hjl
    have h1 := hf j f hj
    rw [ho, hk] at h1
    have hone' : (cs'.drop j).take 1 = [cs'[j]'(by omega)] := by
      rw [List.drop_eq_getElem_cons (by omega)]
      rfl
    rw [hone'] at h1
    have hys : ys[j]? = some (ys[j]'(by omega)) := List.getElem?_eq_getElem (by omega)
    refine ⟨cs'[j]'(by omega), _, ?_, h1.trans hys⟩
    rw [← Go.Deep.add_add, hcell, List.getElem?_eq_getElem (by omega)]

instance : Inhabited TermD := ⟨⟨false, 0, []⟩⟩

/-- the slice of multiplicities that came in -/
def MultsIn (w : World) (v : Value) : Prop := ∃ A n c us, v = .slice A n c ∧ RdI .u8 w w.heap.size A n c us ∧ ∀ u ∈ us, 0 ≤ u
set_option maxRecDepth 100000 in
theorem rd_mults {r : Reach} {b0 : Nat} {v : Value} {d : DataW H} {ps : List MemPlace} (hval : Value.okWide Try.prog w r b0 22 v) (h : DataW.Trod enc Try.prog w 0 (fun _ => true) true 22 v d ps) : MultsIn w v := by
  obtain ⟨A, n, c, us, rfl, hr, hnc, hcm, hl, hwf⟩ := rd_ints Try.underlying22 Try.underlying27 (by kernel_rfl) hval h
  exact ⟨A, n, c, us, rfl, ⟨hr, hnc, hcm⟩, fun u hu => (bounds_u8 (hwf u hu)).1⟩

/-- the Mu that came in -/
def MuIn (v : Value) : Prop := ∃ V C : Int, v = .agg #[.int .i64 V, .int .u8 C] ∧ 0 ≤ C ∧ C ≤ 255 ∧ -9223372036854775808 ≤ V ∧ V ≤ 9223372036854775807
set_option maxRecDepth 100000 in
theorem rd_mu {r : Reach} {b0 : Nat} {v : Value} {d : DataW H} {ps : List MemPlace} (hval : Value.okWide Try.prog w r b0 29 v) (h : DataW.Trod enc Try.prog w 0 (fun _ => true) true 29 v d ps) : MuIn v := by
  obtain ⟨v0, v1, y0, y1, n, rfl, _, _, t0, t1⟩ := open_agg2 Try.underlying29 (by kernel_rfl) (by kernel_rfl) hval h
  obtain ⟨n0, e0, _, w0⟩ := DataW.trod_int Try.underlying3 t0
  obtain ⟨n1, e1, _, w1⟩ := DataW.trod_int Try.underlying27 t1
  injection e0 with e0 _
  injection e1 with e1 _
  subst e0; subst e1
  exact ⟨n0, n1, rfl, (bounds_u8 w1).1, (bounds_u8 w1).2, (bounds_i64 w0).1, (bounds_i64 w0).2⟩

end
end Go.Proofs.Ythabkpkgocafoaa

/- How inequalities that come in read. -/
namespace Go.Proofs.Ythabkpkgocafoaa
set_option linter.unusedVariables false
set_option linter.unusedSimpArgs false
open Go.ChangeShapes Go.WideShapes Go.ChangeAt Go.RowKit Go.Deep Go.Joins

section
variable {H : Type} {enc : TypeId × Value → H} {w : World}

instance : Inhabited IneqD := ⟨⟨0, 0, 0, 0⟩⟩
def WfQ (x : IneqD) : Prop := (-9223372036854775808 ≤ x.lv ∧ x.lv ≤ 9223372036854775807) ∧ (0 ≤ x.lc ∧ x.lc ≤ 255) ∧ (0 ≤ x.c ∧ x.c ≤ 255) ∧ (-9223372036854775808 ≤ x.r ∧ x.r ≤ 9223372036854775807)
set_option maxRecDepth 100000 in
theorem ineq_cells {base : Nat} {spare : Nat → Bool} {held : Bool} {fuel : Nat} {cs : List Value} {x : DataW H × List MemPlace} (h : DataW.trod enc Try.prog w base spare held fuel 31 cs = some x) :
    ∃ q : IneqD, cs = [.int .i64 q.lv, .int .u8 q.lc, .int .u8 q.c, .int .i64 q.r] ∧ WfQ q := by
  obtain ⟨xs, n, rfl, rfl, hl, hxl, hf⟩ := DataW.trod_struct Try.underlying31 h
  have hl4 : cs.length = 4 := hl.trans (by kernel_rfl)
  have hx3 : xs.length = 3 := hxl
  obtain ⟨a, b, c, d, rfl⟩ : ∃ a b c d, cs = [a, b, c, d] := by
    match cs, hl4 with
    | [a, b, c, d], _ => exact ⟨a, b, c, d, rfl⟩
  obtain ⟨y0, y1, y2, rfl⟩ : ∃ a b c, xs = [a, b, c] := by
    match xs, hx3 with
    | [a, b, c], _ => exact ⟨a, b, c, rfl⟩
  have k0 : DataW.trod enc Try.prog w base spare held n 29 (([a, b, c, d].drop 0).take (Try.prog.cellsOf 29)) = some y0 := hf 0 _ rfl
  rw [show Try.prog.cellsOf 29 = 2 from by kernel_rfl] at k0
  have k1 : DataW.trod enc Try.prog w base spare held n 27 (([a, b, c, d].drop 2).take (Try.prog.cellsOf 27)) = some y1 := hf 1 _ rfl
  rw [show Try.prog.cellsOf 27 = 1 from by kernel_rfl] at k1
  have k2 : DataW.trod enc Try.prog w base spare held n 3 (([a, b, c, d].drop 3).take (Try.prog.cellsOf 3)) = some y2 := hf 2 _ rfl
  rw [show Try.prog.cellsOf 3 = 1 from by kernel_rfl] at k2
  obtain ⟨zs, m, rfl, hz, _, hzl, hg⟩ := DataW.trod_struct Try.underlying29 k0
  have hz2 : zs.length = 2 := hzl
  obtain ⟨z0, z1, rfl⟩ : ∃ a b, zs = [a, b] := by
    match zs, hz2 with
    | [a, b], _ => exact ⟨a, b, rfl⟩
  have j0 : DataW.trod enc Try.prog w base spare held m 3 (([a, b].drop 0).take (Try.prog.cellsOf 3)) = some z0 := hg 0 _ rfl
  rw [show Try.prog.cellsOf 3 = 1 from by kernel_rfl] at j0
  have j1 : DataW.trod enc Try.prog w base spare held m 27 (([a, b].drop 1).take (Try.prog.cellsOf 27)) = some z1 := hg 1 _ rfl
  rw [show Try.prog.cellsOf 27 = 1 from by kernel_rfl] at j1
  obtain ⟨n0, e0, _, w0⟩ := DataW.trod_int Try.underlying3 j0
  obtain ⟨n1, e1, _, w1⟩ := DataW.trod_int Try.underlying27 j1
  obtain ⟨n2, e2, _, w2⟩ := DataW.trod_int Try.underlying27 k1
  obtain ⟨n3, e3, _, w3⟩ := DataW.trod_int Try.underlying3 k2
  injection e0 with e0 _
  injection e1 with e1 _
  injection e2 with e2 _
  injection e3 with e3 _
  subst e0; subst e1; subst e2; subst e3
  exact ⟨⟨n0, n1, n2, n3⟩, rfl, bounds_i64 w0, bounds_u8 w1, bounds_u8 w2, bounds_i64 w3⟩

/-- the inequality that came in -/
def IneqIn (v : Value) : Prop := ∃ q : IneqD, v = .agg #[.int .i64 q.lv, .int .u8 q.lc, .int .u8 q.c, .int .i64 q.r] ∧ WfQ q
set_option maxRecDepth 100000 in
theorem rd_ineq {r : Reach} {b0 : Nat} {v : Value} {d : DataW H} {ps : List MemPlace} (hval : Value.okWide Try.prog w r b0 31 v) (h : DataW.Trod enc Try.prog w 0 (fun _ => true) true 31 v d ps) : IneqIn v := by
  obtain ⟨cs, rfl, hsz⟩ := okWide_struct Try.underlying31 hval
  obtain ⟨fuel, hf⟩ := h
  obtain ⟨q, hq, hw⟩ := ineq_cells hf
  refine ⟨q, ?_, hw⟩
  have : cs.toList = [.int .i64 q.lv, .int .u8 q.lc, .int .u8 q.c, .int .i64 q.r] := hq
  rw [show cs = #[.int .i64 q.lv, .int .u8 q.lc, .int .u8 q.c, .int .i64 q.r] from Array.toList_inj.mp this]

/-- the slice of inequalities that came in -/
def IneqsIn (w : World) (v : Value) : Prop := ∃ A n c xs, v = .slice A n c ∧ IneqsV w w.heap.size A n c xs ∧ ∀ x ∈ xs, WfQ x
set_option maxRecDepth 100000 in
theorem rd_ineqs {r : Reach} {b0 : Nat} {v : Value} {d : DataW H} {ps : List MemPlace} (hval : Value.okWide Try.prog w r b0 35 v) (h : DataW.Trod enc Try.prog w 0 (fun _ => true) true 35 v d ps) : IneqsIn w v := by
  obtain ⟨A, n, c, rfl⟩ := okWide_slice Try.underlying35 hval
  obtain ⟨fuel, hf⟩ := h
  rcases open_slice Try.underlying35 hf with ⟨hcs, _⟩ | ⟨a, l, c', m, n', D, Pl, hcs, hb, hl, hm, hmm, hx, hi⟩
  · simp [Value.cells] at hcs
    obtain ⟨rfl, rfl, rfl⟩ := hcs
    exact ⟨none, 0, 0, [], rfl, IneqsV.nil, by simp⟩
  · simp [Value.cells] at hcs
    obtain ⟨rfl, rfl, rfl⟩ := hcs
    simp only [if_true] at hmm
    subst hmm
    have hall : ∀ i, i < n → ∃ x : IneqD, ∃ b off, a = ⟨b, off, none⟩ ∧ b < w.heap.size ∧ IneqAt w b (off + i * 4) x ∧ WfQ x := by
      intro i hin
      obtain ⟨cs', hc, ht'⟩ := hi i (by omega)
      rw [show Try.prog.cellsOf 31 = 4 from by kernel_rfl] at hc
      obtain ⟨q, rfl, hw⟩ := ineq_cells ht'
      obtain ⟨_, hcl, hat⟩ := World.cells?_some hc
      have h0 := hat 0 (by omega)
      have h1 := hat 1 (by omega)
      have h2 := hat 2 (by omega)
      have h3 := hat 3 (by omega)
      simp only [Go.Deep.add_add] at h0 h1 h2 h3
      obtain ⟨b, off, sp⟩ := a
      have hs : sp = none := by
        obtain ⟨cs0, hc0, ht0⟩ := hi 0 (by omega)
        rw [show Try.prog.cellsOf 31 = 4 from by kernel_rfl] at hc0
        obtain ⟨q0, rfl, _⟩ := ineq_cells ht0
        have d0 := (World.cells?_some hc0).2.2 0 (by omega)
        simp only [Nat.zero_mul, Nat.add_zero, Addr.add, if_true] at d0
        exact spot_none d0
      subst hs
      rw [addr_add] at h0 h1 h2 h3
      exact ⟨q, b, off, rfl, World.block_lt_of_cell? _ _ h0, ⟨h0, by rw [Nat.add_assoc]; exact h1, by rw [Nat.add_assoc]; exact h2, by rw [Nat.add_assoc]; exact h3⟩, hw⟩
    obtain ⟨f, hf⟩ := choose_lt hall
    refine ⟨some a, n, m, (List.range n).map f, rfl, ⟨by simp, hl, hm, fun hn => ?_⟩, fun x hx => ?_⟩
    · obtain ⟨b, off, rfl, hb, _⟩ := hf 0 hn
      refine ⟨b, off, rfl, hb, fun i hi => ?_⟩
      rw [List.length_map, List.length_range] at hi
      obtain ⟨b', off', e, _, h', _⟩ := hf i hi
      injection e with e1 e2 _
      subst e1; subst e2
      simpa using h'
    · obtain ⟨i, hi, rfl⟩ := List.mem_map.1 hx
      obtain ⟨_, _, _, _, _, hw⟩ := hf i (List.mem_range.1 hi)
      exact hw
end

end Go.Proofs.Ythabkpkgocafoaa

/- How a slice of ints that comes in reads. -/
namespace Go.Proofs.Ythabkpkgocafoaa
set_option linter.unusedVariables false
set_option linter.unusedSimpArgs false
open Go.ChangeShapes Go.WideShapes Go.ChangeAt Go.RowKit Go.Deep Go.Joins

section
variable {H : Type} {enc : TypeId × Value → H} {w : World}
/-- the slice of ints that came in -/
def IntsIn (w : World) (v : Value) : Prop := ∃ A n c us, v = .slice A n c ∧ RdI .i64 w w.heap.size A n c us
set_option maxRecDepth 100000 in
theorem rd_intsI {r : Reach} {b0 : Nat} {v : Value} {d : DataW H} {ps : List MemPlace} (hval : Value.okWide Try.prog w r b0 23 v) (h : DataW.Trod enc Try.prog w 0 (fun _ => true) true 23 v d ps) : IntsIn w v := by
  obtain ⟨A, n, c, us, rfl, hr, hnc, hcm, hl, hwf⟩ := rd_ints Try.underlying23 Try.underlying3 (by kernel_rfl) hval h
  exact ⟨A, n, c, us, rfl, ⟨hr, hnc, hcm⟩⟩
end
end Go.Proofs.Ythabkpkgocafoaa

