/- Texts of this claim, laid one behind the other: Row, RowM, RowG, RowU. -/
import Derived.Test.YtimlbpjdgnapoaaRows
import Derived.WalkKit
import Derived.ProofKit
import Derived.OpenShut
import Derived.ShutString
import Derived.ChangeOld
import Derived.Below
import Derived.Test.YtimlbpjdgnapoaaM1
import Derived.SizedLaws
import Derived.Deep.Slices
import Derived.Deep.Fields
import Derived.Lib.SmallJoins
import Derived.Test.YtimlbpjdgnapoaaM6
/- The step from a walk to a row, for every law: it returns true, and nothing that was there has turned. -/
namespace Go.Proofs.Ytimlbpjdgnapoaa
set_option linter.unusedVariables false
set_option linter.unusedSimpArgs false
open Go.ChangeShapes Go.WideShapes Go.ChangeAt Go.RowKit
open Go.ChangeMaps (open_string shut_string)

theorem own : ownKnob Try.prog.godebug = none := by kernel_rfl
theorem laidOut : laidOutB Try.prog = true := by kernel_rfl

section
variable {H : Type} {enc : TypeId × Value → H} {P : Program}

theorem trodAll_lt {w : World} {base : Nat} {spare : Nat → Bool} {held : Bool} : ∀ (ts : List TypeId) (vs : List Value) (ds : List (DataW H)) (ps : List MemPlace),
    DataW.TrodAll enc P w base spare held ts vs ds ps → ∀ p ∈ ps, p.block < w.heap.size
  | [], [], [], ps, h => by have h : ps = [] := h; subst h; intro p hp; cases hp
  | t :: ts, v :: vs, d :: ds, ps, h => by
    obtain ⟨p, q, ⟨m, hm⟩, hr, rfl⟩ := h
    intro x hx
    rcases List.mem_append.1 hx with hx | hx
    · exact DataW.trod_lt m _ _ _ hm x hx
    · exact trodAll_lt ts vs ds q hr x hx
  | [], [], _ :: _, _, h => h.elim
  | [], _ :: _, _, _, h => h.elim
  | _ :: _, [], _, _, h => h.elim
  | _ :: _, _ :: _, [], _, h => h.elim

theorem trodAll_below (hl : laidOutB P = true) {W W' : World} (hb : Below W.heap.size W W') : ∀ (ts : List TypeId) (vs : List Value) (ds : List (DataW H)) (ps : List MemPlace),
    ts.all (fun t => P.readableRec t && decide (t < P.types.size)) = true → (∀ p ∈ ps, p.block < W.heap.size) →
    DataW.TrodAll enc P W 0 (fun _ => true) true ts vs ds ps → DataW.TrodAll enc P W' 0 (fun b => decide (b < W.heap.size)) true ts vs ds ps
  | [], [], [], _, _, _, h => h
  | t :: ts, v :: vs, d :: ds, ps, ht, hlt, h => by
    obtain ⟨p, q, h0, hr, rfl⟩ := h
    rw [List.all_cons, Bool.and_eq_true, Bool.and_eq_true] at ht
    exact ⟨p, q, Below.trod hl ht.1.1 (of_decide_eq_true ht.1.2) h0 hb (fun x hx => hlt x (List.mem_append.2 (.inl hx))),
      trodAll_below hl hb ts vs ds q ht.2 (fun x hx => hlt x (List.mem_append.2 (.inr hx))) hr, rfl⟩
  | [], [], _ :: _, _, _, _, h => h.elim
  | [], _ :: _, _, _, _, _, h => h.elim
  | _ :: _, [], _, _, _, _, h => h.elim
  | _ :: _, _ :: _, [], _, _, _, h => h.elim

/-- what a law's row asks of the world behind the call -/
theorem law_post {f : Func} {s : ChangeSpec} {tb : TypeId} (hl : laidOutB P = true) (hts : f.params.toList.all (fun t => P.readableRec t && decide (t < P.types.size)) = true)
    (hvs : s.vars = []) (hrt : f.resultTypes = #[tb]) (htb : P.underlying tb = some .bool)
    {W W' : World} {args : Array Value} {ds : List (DataW H)} {before : List MemPlace}
    (hW : DataW.Whole enc P f.params.toList s.vars false W args.toList ds [] before)
    (hres : (s.fn H (ds ++ [])).results = [.lit (.bool true)]) (hargs : (s.fn H (ds ++ [])).args = ds) (hvars : (s.fn H (ds ++ [])).vars = [])
    (bel : Below W.heap.size W W') : s.post enc P f false true false false W args (.bool true) W' := by
  have hW' := hW
  obtain ⟨p, q, hA, hV, rfl, _, _⟩ := hW
  rw [hvs] at hV
  obtain ⟨_, rfl⟩ := trodVars_none hV
  refine ⟨_, _, _, [], p, [], hW', ?_, ?_, ?_, bel.frame _, fun h => by cases h⟩
  · rw [hres, hrt]
    exact trodAll_mk1 (shut_bool htb _)
  · rw [hargs]
    exact trodAll_below hl bel _ _ _ _ hts (trodAll_lt _ _ _ _ hA) hA
  · rw [hvars, hvs]
    rfl
theorem spot_none {w : World} {b o : Nat} {sp : Option Nat} {v : Value} (h : w.cell? ⟨b, o, sp⟩ = some v) : sp = none := World.cell?_spot h
theorem rd_of_cells {w : World} {a : Addr} {n : Nat} {xs : List Value} (size : Nat) (hsz : 0 < size) (hl : xs.length = n * size) (hc : ∀ i u, xs[i]? = some u → w.cell? (a.add i) = some u) : Rd w w.heap.size size (some a) n xs := by
  refine ⟨hl, fun hn => ?_⟩
  obtain ⟨b, o, sp⟩ := a
  have h0 : 0 < xs.length := by rw [hl]; exact Nat.mul_pos hn hsz
  have hc0 := hc 0 _ (List.getElem?_eq_getElem h0)
  have hs : sp = none := by
    have : (Addr.add ⟨b, o, sp⟩ 0) = ⟨b, o, sp⟩ := by simp [Addr.add]
    rw [this] at hc0
    exact World.cell?_spot hc0
  subst hs
  refine ⟨b, o, rfl, ?_, fun j u hu => ?_⟩
  · have := World.block_lt_of_cell? _ _ hc0
    simpa [Addr.add] using this
  · have := hc j u hu
    rw [show (Addr.add ⟨b, o, none⟩ j) = ⟨b, o + j, none⟩ from by unfold Addr.add; split <;> simp_all] at this
    exact this

/-- a slice of integers that came in -/
theorem rd_ints {r : Reach} {b0 : Nat} {w : World} {t e : TypeId} {k : IntKind} {v : Value} {d : DataW H} {ps : List MemPlace} (ht : P.underlying t = some (.slice e)) (he : P.underlying e = some (.int k)) (hc : P.cellsOf e = 1)
    (hval : Value.okWide P w r b0 t v) (h : DataW.Trod enc P w 0 (fun _ => true) true t v d ps) :
    ∃ (A : Option Addr) (n c : Nat) (us : List Int), v = .slice A n c ∧ Rd w w.heap.size 1 A n (us.map (Value.int k)) ∧ n ≤ c ∧ c ≤ maxLen ∧ us.length = n ∧ ∀ u ∈ us, (Lit.int k u).wf = true := by
  obtain ⟨A, n, c, rfl⟩ := okWide_slice ht hval
  obtain ⟨fuel, hf⟩ := h
  rcases open_ints ht he hc hf with ⟨hcs, _⟩ | ⟨a, l, c', zs, hcs, _, hl, hm, hz, _, hcell, hwz⟩
  · simp [Value.cells] at hcs
    obtain ⟨rfl, rfl, rfl⟩ := hcs
    exact ⟨none, 0, 0, [], rfl, Rd.nil, Nat.le_refl _, Nat.zero_le _, rfl, by simp⟩
  · simp [Value.cells] at hcs
    obtain ⟨rfl, rfl, rfl⟩ := hcs
    simp only [if_true] at hz
    have hlen : (zs.take n).length = n := by rw [List.length_take, hz]; omega
    refine ⟨_, n, c, zs.take n, rfl, rd_of_cells 1 (by omega) (by rw [List.length_map, hlen, Nat.mul_one]) (fun i u hu => ?_), hl, hm, hlen, fun u hu => hwz u (List.mem_of_mem_take hu)⟩
    rw [List.getElem?_map] at hu
    obtain ⟨z, hz', rfl⟩ := Option.map_eq_some_iff.1 hu
    have hi : i < n := by
      have := (List.getElem?_eq_some_iff.1 hz').1
      omega
    rw [List.getElem?_take, if_pos hi] at hz'
    have := hcell i (by omega)
    rw [this]
    simp [List.getD, hz']

end

end Go.Proofs.Ytimlbpjdgnapoaa

/- How slices of multiplicities that come in read. -/
namespace Go.Proofs.Ytimlbpjdgnapoaa
set_option linter.unusedVariables false
set_option linter.unusedSimpArgs false
open Go.ChangeShapes Go.WideShapes Go.ChangeAt Go.RowKit Go.Deep Go.Joins

section
variable {H : Type} {enc : TypeId × Value → H} {w : World}

theorem addr_add (b o j : Nat) : (Addr.add ⟨b, o, none⟩ j) = ⟨b, o + j, none⟩ := by unfold Addr.add; split <;> simp_all

/-- a slice of integers in a cell, or by value -/
theorem rd_ints_c {P : Program} {t e : TypeId} {k : IntKind} {m : Nat} {v : Value} {y : DataW H × List MemPlace} (ht : P.underlying t = some (.slice e)) (he : P.underlying e = some (.int k)) (hc : P.cellsOf e = 1)
    (h : DataW.trod enc P w 0 (fun _ => true) true m t [v] = some y) : ∃ A n c us, v = .slice A n c ∧ RdI k w w.heap.size A n c us ∧ ∀ u ∈ us, (Lit.int k u).wf = true := by
  rcases open_ints ht he hc h with ⟨hcs, _⟩ | ⟨a, l, c', zs, hcs, _, hl, hm, hz, _, hcell, hwz⟩
  · injection hcs with hcs _
    subst hcs
    exact ⟨none, 0, 0, [], rfl, RdI.nil, by simp⟩
  · injection hcs with hcs _
    subst hcs
    simp only [if_true] at hz
    have hlen : (zs.take l).length = l := by rw [List.length_take, hz]; omega
    refine ⟨some a, l, c', zs.take l, rfl, ⟨rd_of_cells 1 (by omega) (by rw [List.length_map, hlen, Nat.mul_one]) (fun i u hu => ?_), hl, hm⟩, fun u hu => hwz u (List.mem_of_mem_take hu)⟩
    rw [List.getElem?_map] at hu
    obtain ⟨z, hz', rfl⟩ := Option.map_eq_some_iff.1 hu
    have hi : i < l := by
      have := (List.getElem?_eq_some_iff.1 hz').1
      omega
    rw [List.getElem?_take, if_pos hi] at hz'
    have := hcell i (by omega)
    rw [this]
    simp [List.getD, hz']

theorem open_slice_fields {P : Program} {base : Nat} {spare : Nat → Bool} {held : Bool} {t e : TypeId} {fs : Array Field} {fuel : Nat} {cs : List Value} {x : DataW H × List MemPlace} (ht : P.underlying t = some (.slice e)) (he : P.underlying e = some (.struct fs))
    (hone : oneCellFields P fs = true) (hC : P.cellsOf e = fs.size) (h : DataW.trod enc P w base spare held fuel t cs = some x) :
    (cs = [.slice none 0 0] ∧ x = (.nil, [])) ∨
    ∃ (a : Addr) (len cap m : Nat) (D : Nat → DataW H), cs = [.slice (some a) len cap] ∧ len ≤ cap ∧ cap ≤ maxLen ∧ m = (if spare a.block then cap else len) ∧
      x.1 = .slice ((List.range len).map D) ((List.range (m - len)).map fun j => D (len + j)) ∧
      ∀ i, i < m → ∃ n, ∀ (j : Nat) (f : Field), fs[j]? = some f → ∃ (v : Value) (y : DataW H × List MemPlace), w.cell? (a.add (i * fs.size + j)) = some v ∧ DataW.trod enc P w base spare held n f.type [v] = some y := by
  rcases open_slice ht h with h0 | ⟨a, len, cap, m, n, D, Pl, hcs, hb, hl, hm, hmm, hx, hi⟩
  · exact .inl h0
  · refine .inr ⟨a, len, cap, m, D, hcs, hl, hm, hmm, by rw [hx], fun i him => ?_⟩
    obtain ⟨cs', hc, ht'⟩ := hi i him
    rw [hC] at hc
    obtain ⟨ys, n', hn', hy, hlen, hyl, hf⟩ := DataW.trod_struct he ht'
    obtain ⟨_, hcl, hat⟩ := World.cells?_some hc
    refine ⟨n', fun j f hj => ?_⟩
    obtain ⟨ho, hk⟩ := hone_of hone j f hj
    have hjl : j < fs.size := (Array.getElem?_eq_some_iff.1 hj).1
    have hcell := hat j hjl
    have h1 := hf j f hj
    rw [ho, hk] at h1
    have hone' : (cs'.drop j).take 1 = [cs'[j]'(by omega)] := by
      rw [List.drop_eq_getElem_cons (by omega)]
      rfl
    rw [hone'] at h1
    have hys : ys[j]? = some (ys[j]'(by omega)) := List.getElem?_eq_getElem (by omega)
    refine ⟨cs'[j]'(by omega), _, ?_, h1.trans hys⟩
    rw [← Go.Deep.add_add, hcell, List.getElem?_eq_getElem (by omega)]

instance : Inhabited TermD := ⟨⟨false, 0, []⟩⟩

/-- the slice of multiplicities that came in -/
def MultsIn (w : World) (v : Value) : Prop := ∃ A n c us, v = .slice A n c ∧ RdI .u8 w w.heap.size A n c us ∧ ∀ u ∈ us, 0 ≤ u
set_option maxRecDepth 100000 in
theorem rd_mults {r : Reach} {b0 : Nat} {v : Value} {d : DataW H} {ps : List MemPlace} (hval : Value.okWide Try.prog w r b0 61 v) (h : DataW.Trod enc Try.prog w 0 (fun _ => true) true 61 v d ps) : MultsIn w v := by
  obtain ⟨A, n, c, us, rfl, hr, hnc, hcm, hl, hwf⟩ := rd_ints Try.underlying61 Try.underlying34 (by kernel_rfl) hval h
  exact ⟨A, n, c, us, rfl, ⟨hr, hnc, hcm⟩, fun u hu => (bounds_u8 (hwf u hu)).1⟩

/-- the Mu that came in -/
def MuIn (v : Value) : Prop := ∃ V C : Int, v = .agg #[.int .i64 V, .int .u8 C] ∧ 0 ≤ C ∧ C ≤ 255 ∧ -9223372036854775808 ≤ V ∧ V ≤ 9223372036854775807
set_option maxRecDepth 100000 in
theorem rd_mu {r : Reach} {b0 : Nat} {v : Value} {d : DataW H} {ps : List MemPlace} (hval : Value.okWide Try.prog w r b0 46 v) (h : DataW.Trod enc Try.prog w 0 (fun _ => true) true 46 v d ps) : MuIn v := by
  obtain ⟨v0, v1, y0, y1, n, rfl, _, _, t0, t1⟩ := open_agg2 Try.underlying46 (by kernel_rfl) (by kernel_rfl) hval h
  obtain ⟨n0, e0, _, w0⟩ := DataW.trod_int Try.underlying3 t0
  obtain ⟨n1, e1, _, w1⟩ := DataW.trod_int Try.underlying34 t1
  injection e0 with e0 _
  injection e1 with e1 _
  subst e0; subst e1
  exact ⟨n0, n1, rfl, (bounds_u8 w1).1, (bounds_u8 w1).2, (bounds_i64 w0).1, (bounds_i64 w0).2⟩

end
end Go.Proofs.Ytimlbpjdgnapoaa

/- How slices and structs that come in read, each slice within them bounded by what a machine reaches. -/
namespace Go.Proofs.Ytimlbpjdgnapoaa
set_option linter.unusedVariables false
set_option linter.unusedSimpArgs false
open Go.ChangeShapes Go.WideShapes Go.ChangeAt Go.RowKit Go.Deep Go.Joins

section
variable {H : Type} {enc : TypeId × Value → H} {w : World} {P : Program}

/-- each slice of it has a size that a machine reaches -/
def Light (P : Program) (t : TypeId) (d : DataW H) : Prop := ∀ x ∈ d.weights P t, x ≤ reachBytes
theorem light_of {ts : List TypeId} {ds : List (DataW H)} (h : (DataW.weightsEach P ts ds).all (· ≤ reachBytes) = true) {j : Nat} {t : TypeId} {d : DataW H} (ht : ts[j]? = some t) (hd : ds[j]? = some d) : Light P t d := fun x hx => by
  have := List.all_eq_true.1 h _ (DataW.weights_mem_each ht hd x hx)
  simpa using this
theorem weightsAll_mem {e : TypeId} : ∀ {l : List (DataW H)} {d : DataW H}, d ∈ l → ∀ x ∈ d.weights P e, x ∈ DataW.weightsAll P e l
  | y :: l, d, hd, x, hx => by
    simp only [DataW.weightsAll, List.mem_append]
    rcases List.mem_cons.1 hd with rfl | hd
    · exact .inl hx
    · exact .inr (weightsAll_mem hd x hx)
  | [], d, hd, _, _ => by simp at hd
theorem Light.slice {t e : TypeId} {elems spare : List (DataW H)} (hu : P.underlying t = some (.slice e)) (h : Light P t (.slice elems spare)) : (elems.length + spare.length) * P.bytesOf e ≤ reachBytes ∧ ∀ d ∈ elems, Light P e d := by
  refine ⟨h _ (by simp [DataW.weights, hu]), fun d hd x hx => h x ?_⟩
  simp only [DataW.weights, hu, List.mem_cons, List.mem_append]
  exact .inr (.inl (weightsAll_mem hd x hx))
theorem Light.agg {t : TypeId} {fs : Array Field} {parts : List (DataW H)} (hu : P.underlying t = some (.struct fs)) (h : Light P t (.agg parts)) {i : Nat} {ft : TypeId} {p : DataW H} (hf : (fs.toList.map (·.type))[i]? = some ft) (hp : parts[i]? = some p) : Light P ft p := fun x hx =>
  h x (by simp only [DataW.weights, hu]; exact DataW.weights_mem_each hf hp x hx)

/-- a slice that came in, its elements read by El -/
theorem rows_in {X : Type} [Inhabited X] {t e : TypeId} (k : Nat) (El : List Value → X → Prop) (ht : P.underlying t = some (.slice e)) (hk : P.cellsOf e = k) (hk0 : 0 < k)
    (hel : ∀ (n : Nat) (cs' : List Value) (D : DataW H) (Pl : List MemPlace), cs'.length = k → DataW.trod enc P w 0 (fun _ => true) true n e cs' = some (D, Pl) → Light P e D → ∃ x, El cs' x)
    {fuel : Nat} {cs : List Value} {x : DataW H × List MemPlace} (h : DataW.trod enc P w 0 (fun _ => true) true fuel t cs = some x) (hl : Light P t x.1) :
    ∃ (A : Option Addr) (n c : Nat) (xs : List X), cs = [.slice A n c] ∧ xs.length = n ∧ n ≤ c ∧ c ≤ maxLen ∧ n * P.bytesOf e ≤ reachBytes ∧
      (0 < n → ∃ b off, A = some ⟨b, off, none⟩ ∧ b < w.heap.size ∧ ∀ i (hi : i < xs.length), ∃ cs' : List Value, cs'.length = k ∧ (∀ j (hj : j < cs'.length), w.cell? ⟨b, off + i * k + j, none⟩ = some cs'[j]) ∧ El cs' xs[i]) ∧
      (∀ y ∈ xs, ∃ cs', El cs' y) := by
  rcases open_slice ht h with ⟨hcs, _⟩ | ⟨a, l, c', m, n', D, Pl, hcs, hb, hln, hm, hmm, hx, hi⟩
  · exact ⟨none, 0, 0, [], hcs, rfl, Nat.le_refl _, Nat.zero_le _, by omega, fun h => absurd h (by omega), by simp⟩
  · simp only [if_true] at hmm
    subst hmm
    subst hx
    have hL := Light.slice ht hl
    have hall : ∀ i, i < l → ∃ x : X, ∃ b off, a = ⟨b, off, none⟩ ∧ b < w.heap.size ∧ ∃ cs' : List Value, cs'.length = k ∧ (∀ j (hj : j < cs'.length), w.cell? ⟨b, off + i * k + j, none⟩ = some cs'[j]) ∧ El cs' x := by
      intro i hin
      obtain ⟨cs', hc, ht'⟩ := hi i (by omega)
      rw [hk] at hc
      obtain ⟨_, hcl, hat⟩ := World.cells?_some hc
      obtain ⟨x, hx⟩ := hel _ _ _ _ hcl ht' (hL.2 _ (List.mem_map.2 ⟨i, List.mem_range.2 hin, rfl⟩))
      obtain ⟨b, off, sp⟩ := a
      have hs : sp = none := by
        obtain ⟨cs0, hc0, _⟩ := hi 0 (by omega)
        rw [hk] at hc0
        have d0 := (World.cells?_some hc0).2.2 0 (by omega)
        simp only [Nat.zero_mul, Nat.add_zero, Addr.add, if_true] at d0
        rw [List.getElem?_eq_getElem (by rw [(World.cells?_some hc0).2.1]; exact hk0)] at d0
        exact spot_none d0
      subst hs
      simp only [Go.Deep.add_add] at hat
      have h0 := hat 0 (by omega)
      rw [addr_add, List.getElem?_eq_getElem (by omega)] at h0
      refine ⟨x, b, off, rfl, World.block_lt_of_cell? _ _ h0, cs', hcl, fun j hj => ?_, hx⟩
      have hj' := hat j (by omega)
      rw [addr_add, List.getElem?_eq_getElem hj] at hj'
      rw [Nat.add_assoc]
      exact hj'
    obtain ⟨f, hf⟩ := choose_lt hall
    refine ⟨some a, l, m, (List.range l).map f, hcs, by simp, hln, hm, ?_, fun hn => ?_, fun y hy => ?_⟩
    · have := hL.1
      simp only [List.length_map, List.length_range] at this
      exact Nat.le_trans (Nat.mul_le_mul_right _ (by omega)) this
    · obtain ⟨b, off, rfl, hb, _⟩ := hf 0 hn
      refine ⟨b, off, rfl, hb, fun i hi => ?_⟩
      rw [List.length_map, List.length_range] at hi
      obtain ⟨b', off', e, _, h'⟩ := hf i hi
      injection e with e1 e2 _
      subst e1; subst e2
      simpa using h'
    · obtain ⟨i, hi, rfl⟩ := List.mem_map.1 hy
      obtain ⟨_, _, _, _, cs', _, _, hw⟩ := hf i (List.mem_range.1 hi)
      exact ⟨cs', hw⟩

/-- a field of a struct -/
theorem field_in {t : TypeId} {fs : Array Field} {fuel : Nat} {cs : List Value} {x : DataW H × List MemPlace} (ht : P.underlying t = some (.struct fs)) (h : DataW.trod enc P w 0 (fun _ => true) true fuel t cs = some x) (hl : Light P t x.1) :
    ∃ n, cs.length = P.cellsOf t ∧ ∀ (i : Nat) (f : Field), fs[i]? = some f → ∃ y : DataW H × List MemPlace, DataW.trod enc P w 0 (fun _ => true) true n f.type ((cs.drop f.offset).take (P.cellsOf f.type)) = some y ∧ Light P f.type y.1 := by
  obtain ⟨xs, n, rfl, rfl, hcl, hxl, hf⟩ := DataW.trod_struct ht h
  refine ⟨n, hcl, fun i f hfi => ?_⟩
  have h1 := hf i f hfi
  have hi : i < xs.length := by rw [hxl]; exact (Array.getElem?_eq_some_iff.1 hfi).1
  rw [List.getElem?_eq_getElem hi] at h1
  refine ⟨_, h1, hl.agg ht (i := i) ?_ ?_⟩
  · rw [List.getElem?_map, Array.getElem?_toList, hfi]; rfl
  · rw [List.getElem?_map, List.getElem?_eq_getElem hi]; rfl
end

end Go.Proofs.Ytimlbpjdgnapoaa

/- How uses, lists of uses, terms and Mus that come in read. -/
namespace Go.Proofs.Ytimlbpjdgnapoaa
set_option linter.unusedVariables false
set_option linter.unusedSimpArgs false
open Go.ChangeShapes Go.WideShapes Go.ChangeAt Go.RowKit Go.Deep Go.Joins

section
variable {H : Type} {enc : TypeId × Value → H} {w : World}

instance : Inhabited TermD := ⟨⟨true, 0, []⟩⟩
instance : Inhabited UseD := ⟨⟨0, default⟩⟩
/-- a term in three cells -/
def TermC (w : World) (cs : List Value) (t : TermD) : Prop := ∃ A n c, cs = [.bool t.never, .int .u8 t.c, .slice A n c] ∧ RdI .i64 w w.heap.size A n c t.vars ∧ (0 ≤ t.c ∧ t.c ≤ 255) ∧ ∀ v ∈ t.vars, -9223372036854775808 ≤ v ∧ v ≤ 9223372036854775807
set_option maxRecDepth 100000 in
theorem term_cells {fuel : Nat} {cs : List Value} {x : DataW H × List MemPlace} (h : DataW.trod enc Try.prog w 0 (fun _ => true) true fuel 37 cs = some x) (hl : Light Try.prog 37 x.1) : ∃ t, TermC w cs t := by
  obtain ⟨n, hcl, hf⟩ := field_in Try.underlying37 h hl
  have hl3 : cs.length = 3 := hcl.trans (by kernel_rfl)
  obtain ⟨a, b, c, rfl⟩ : ∃ a b c, cs = [a, b, c] := by
    match cs, hl3 with
    | [a, b, c], _ => exact ⟨a, b, c, rfl⟩
  obtain ⟨y0, k0, _⟩ := hf 0 _ rfl
  obtain ⟨y1, k1, _⟩ := hf 1 _ rfl
  obtain ⟨y2, k2, _⟩ := hf 2 _ rfl
  replace k0 : DataW.trod enc Try.prog w 0 (fun _ => true) true n 4 (([a, b, c].drop 0).take (Try.prog.cellsOf 4)) = some y0 := k0
  rw [show Try.prog.cellsOf 4 = 1 from by kernel_rfl] at k0
  replace k1 : DataW.trod enc Try.prog w 0 (fun _ => true) true n 34 (([a, b, c].drop 1).take (Try.prog.cellsOf 34)) = some y1 := k1
  rw [show Try.prog.cellsOf 34 = 1 from by kernel_rfl] at k1
  replace k2 : DataW.trod enc Try.prog w 0 (fun _ => true) true n 35 (([a, b, c].drop 2).take (Try.prog.cellsOf 35)) = some y2 := k2
  rw [show Try.prog.cellsOf 35 = 1 from by kernel_rfl] at k2
  obtain ⟨b0, e0, _⟩ := DataW.trod_bool Try.underlying4 k0
  obtain ⟨n1, e1, _, w1⟩ := DataW.trod_int Try.underlying34 k1
  obtain ⟨A2, n2, c2', us, e2, hr2, hw2⟩ := rd_ints_c Try.underlying35 Try.underlying3 (by kernel_rfl) k2
  injection e0 with e0 _
  injection e1 with e1 _
  subst e0; subst e1
  have e2' : c = .slice A2 n2 c2' := e2
  subst e2'
  exact ⟨⟨b0, n1, us⟩, A2, n2, c2', rfl, hr2, bounds_u8 w1, fun v hv => bounds_i64 (hw2 v hv)⟩

/-- a use in four cells -/
def UseC (w : World) (cs : List Value) (x : UseD) : Prop := ∃ A n c, cs = [.int .i64 x.v, .bool x.t.never, .int .u8 x.t.c, .slice A n c] ∧ RdI .i64 w w.heap.size A n c x.t.vars ∧ (-9223372036854775808 ≤ x.v ∧ x.v ≤ 9223372036854775807) ∧ (0 ≤ x.t.c ∧ x.t.c ≤ 255)
set_option maxRecDepth 100000 in
theorem use_cells {fuel : Nat} {cs : List Value} {x : DataW H × List MemPlace} (h : DataW.trod enc Try.prog w 0 (fun _ => true) true fuel 41 cs = some x) (hl : Light Try.prog 41 x.1) : ∃ u, UseC w cs u := by
  obtain ⟨n, hcl, hf⟩ := field_in Try.underlying41 h hl
  have hl4 : cs.length = 4 := hcl.trans (by kernel_rfl)
  obtain ⟨a, b, c, d, rfl⟩ : ∃ a b c d, cs = [a, b, c, d] := by
    match cs, hl4 with
    | [a, b, c, d], _ => exact ⟨a, b, c, d, rfl⟩
  obtain ⟨y0, k0, _⟩ := hf 0 _ rfl
  obtain ⟨y1, k1, l1⟩ := hf 1 _ rfl
  replace k0 : DataW.trod enc Try.prog w 0 (fun _ => true) true n 3 (([a, b, c, d].drop 0).take (Try.prog.cellsOf 3)) = some y0 := k0
  rw [show Try.prog.cellsOf 3 = 1 from by kernel_rfl] at k0
  replace k1 : DataW.trod enc Try.prog w 0 (fun _ => true) true n 37 (([a, b, c, d].drop 1).take (Try.prog.cellsOf 37)) = some y1 := k1
  rw [show Try.prog.cellsOf 37 = 3 from by kernel_rfl] at k1
  obtain ⟨n0, e0, _, w0⟩ := DataW.trod_int Try.underlying3 k0
  obtain ⟨t, A, m, c', e1, hr, hc, _⟩ := term_cells k1 l1
  injection e0 with e0 _
  subst e0
  have e1' : [b, c, d] = [.bool t.never, .int .u8 t.c, .slice A m c'] := e1
  injection e1' with e2 e1'
  injection e1' with e3 e1'
  injection e1' with e4 _
  subst e2; subst e3; subst e4
  exact ⟨⟨n0, t⟩, A, m, c', rfl, hr, bounds_i64 w0, hc⟩

/-- the uses that came in -/
def UsesIn (w : World) (v : Value) : Prop := ∃ A n c xs, v = .slice A n c ∧ UsesV w w.heap.size A n c xs ∧ n ≤ 4398046511104
theorem usesV_of {A : Option Addr} {n c : Nat} {xs : List UseD} (h1 : xs.length = n) (h2 : n ≤ c) (h3 : c ≤ maxLen)
    (h4 : 0 < n → ∃ b off, A = some ⟨b, off, none⟩ ∧ b < w.heap.size ∧ ∀ i (hi : i < xs.length), ∃ cs' : List Value, cs'.length = 4 ∧ (∀ j (hj : j < cs'.length), w.cell? ⟨b, off + i * 4 + j, none⟩ = some cs'[j]) ∧ UseC w cs' xs[i]) : UsesV w w.heap.size A n c xs := by
  refine ⟨h1, h2, h3, fun hn => ?_⟩
  obtain ⟨b, off, e, hb, hc⟩ := h4 hn
  refine ⟨b, off, e, hb, fun i hi => ?_⟩
  obtain ⟨cs', hcl, hat, A', n', c', rfl, hr, _⟩ := hc i hi
  exact ⟨hat 0 (by omega), A', n', c', hat 1 (by omega), hat 2 (by omega), hat 3 (by omega), hr⟩
set_option maxRecDepth 100000 in
theorem rd_uses {r : Reach} {b0 : Nat} {v : Value} {d : DataW H} {ps : List MemPlace} (hval : Value.okWide Try.prog w r b0 25 v) (h : DataW.Trod enc Try.prog w 0 (fun _ => true) true 25 v d ps) (hl : Light Try.prog 25 d) : UsesIn w v := by
  obtain ⟨A, n, c, rfl⟩ := okWide_slice Try.underlying25 hval
  obtain ⟨fuel, hf⟩ := h
  obtain ⟨A', n', c', xs, e, h1, h2, h3, h4, h5, _⟩ := rows_in 4 (UseC w) Try.underlying25 (by kernel_rfl) (by omega) (fun _ _ _ _ _ ht hl => use_cells ht hl) hf hl
  have e' : Value.slice A n c = .slice A' n' c' := by simpa [Value.cells] using e
  rw [show Try.prog.bytesOf 41 = 40 from by kernel_rfl] at h4
  exact ⟨A', n', c', xs, e', usesV_of h1 h2 h3 h5, by unfold reachBytes at h4; omega⟩

/-- the lists of uses that came in -/
def LsIn (w : World) (v : Value) : Prop := ∃ A n c ls, v = .slice A n c ∧ LsV w w.heap.size A n c ls ∧ ∀ l ∈ ls, l.length ≤ 4398046511104
def ListC (w : World) (cs : List Value) (l : List UseD) : Prop := ∃ A n c, cs = [.slice A n c] ∧ UsesV w w.heap.size A n c l ∧ l.length ≤ 4398046511104
set_option maxRecDepth 100000 in
theorem list_cells {fuel : Nat} {cs : List Value} {x : DataW H × List MemPlace} (h : DataW.trod enc Try.prog w 0 (fun _ => true) true fuel 25 cs = some x) (hl : Light Try.prog 25 x.1) : ∃ l, ListC w cs l := by
  obtain ⟨A', n', c', xs, e, h1, h2, h3, h4, h5, _⟩ := rows_in 4 (UseC w) Try.underlying25 (by kernel_rfl) (by omega) (fun _ _ _ _ _ ht hl => use_cells ht hl) h hl
  rw [show Try.prog.bytesOf 41 = 40 from by kernel_rfl] at h4
  exact ⟨xs, A', n', c', e, usesV_of h1 h2 h3 h5, by unfold reachBytes at h4; omega⟩
set_option maxRecDepth 100000 in
theorem rd_lists {r : Reach} {b0 : Nat} {v : Value} {d : DataW H} {ps : List MemPlace} (hval : Value.okWide Try.prog w r b0 22 v) (h : DataW.Trod enc Try.prog w 0 (fun _ => true) true 22 v d ps) (hl : Light Try.prog 22 d) : LsIn w v := by
  obtain ⟨A, n, c, rfl⟩ := okWide_slice Try.underlying22 hval
  obtain ⟨fuel, hf⟩ := h
  obtain ⟨A', n', c', ls, e, h1, h2, h3, h4, h5, h6⟩ := rows_in 1 (ListC w) Try.underlying22 (by kernel_rfl) (by omega) (fun _ _ _ _ _ ht hl => list_cells ht hl) hf hl
  have e' : Value.slice A n c = .slice A' n' c' := by simpa [Value.cells] using e
  refine ⟨A', n', c', ls, e', ⟨h1, h2, h3, fun hn => ?_⟩, fun l hl => ?_⟩
  · obtain ⟨b, off, e, hb, hc⟩ := h5 hn
    refine ⟨b, off, e, hb, fun i hi => ?_⟩
    obtain ⟨cs', hcl, hat, A2, n2, c2, rfl, hr, _⟩ := hc i hi
    have h0 := hat 0 (by simp)
    rw [Nat.mul_one, Nat.add_zero] at h0
    exact ⟨A2, n2, c2, h0, hr⟩
  · obtain ⟨cs', _, _, _, _, _, h⟩ := h6 l hl
    exact h
/-- the term that came in -/
def TermW (w : World) (v : Value) : Prop := ∃ (t : TermD) (A : Option Addr) (n c : Nat), v = .agg #[.bool t.never, .int .u8 t.c, .slice A n c] ∧ RdI .i64 w w.heap.size A n c t.vars ∧ (0 ≤ t.c ∧ t.c ≤ 255) ∧ ∀ v ∈ t.vars, -9223372036854775808 ≤ v ∧ v ≤ 9223372036854775807
set_option maxRecDepth 100000 in
theorem rd_termw {r : Reach} {b0 : Nat} {v : Value} {d : DataW H} {ps : List MemPlace} (hval : Value.okWide Try.prog w r b0 37 v) (h : DataW.Trod enc Try.prog w 0 (fun _ => true) true 37 v d ps) (hl : Light Try.prog 37 d) : TermW w v := by
  obtain ⟨cs, rfl, hsz⟩ := okWide_struct Try.underlying37 hval
  obtain ⟨fuel, hf⟩ := h
  obtain ⟨t, A, n, c, e, hr, hc, hv⟩ := term_cells hf hl
  refine ⟨t, A, n, c, ?_, hr, hc, hv⟩
  have : cs.toList = [.bool t.never, .int .u8 t.c, .slice A n c] := e
  rw [show cs = #[.bool t.never, .int .u8 t.c, .slice A n c] from Array.toList_inj.mp this]
end

end Go.Proofs.Ytimlbpjdgnapoaa

