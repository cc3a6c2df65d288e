/- How types, slices of types, of Mus and of texts that come in read, and how great they are. -/
import Derived.Test.YtidamlkekgnhgaaDoorRowE
import Derived.Test.YtidamlkekgnhgaaDoorTyX
import Derived.SizedLaws
import Derived.Deep.Slices
import Derived.Deep.Fields
import Derived.Lib.SmallJoins
namespace Go.Proofs.YtidamlkekgnhgaaDoor
set_option linter.unusedVariables false
set_option linter.unusedSimpArgs false
open Go.ChangeShapes Go.WideShapes Go.ChangeAt Go.RowKit Go.Deep Go.Joins

section
variable {H : Type} {enc : TypeId × Value → H} {w : World} {P : Program}
theorem addr_add (b o j : Nat) : (Addr.add ⟨b, o, none⟩ j) = ⟨b, o + j, none⟩ := by unfold Addr.add; split <;> simp_all
theorem bulk_pos (d : DataW H) : 1 ≤ Rows.uptoBulk d := by
  cases d with
  | lit l => cases l <;> simp [Rows.uptoBulk]
  | nil => simp [Rows.uptoBulk]
  | ptr d => simp [Rows.uptoBulk]
  | slice elems spare => simp [Rows.uptoBulk]
  | agg parts => simp [Rows.uptoBulk]
  | iface t d => simp [Rows.uptoBulk]
  | map entries => simp [Rows.uptoBulk]
  | held h => simp [Rows.uptoBulk]
theorem bulk_part {d : DataW H} {l : List (DataW H)} (h : d ∈ l) : Rows.uptoBulk d ≤ Rows.uptoBulkAll l := by
  induction l with
  | nil => cases h
  | cons x r ih =>
    simp only [Rows.uptoBulkAll]
    rcases List.mem_cons.1 h with e | e
    · subst e; omega
    · have := ih e; omega
theorem bulk_len (l : List (DataW H)) : l.length ≤ Rows.uptoBulkAll l := by
  induction l with
  | nil => simp [Rows.uptoBulkAll]
  | cons x r ih => have := bulk_pos x; simp only [Rows.uptoBulkAll, List.length_cons]; omega

/-- a slice that came in, whose elements are read by El -/
theorem rows_q {X : Type} [Inhabited X] {t e : TypeId} (k : Nat) (El : List Value → DataW H → X → Prop) (ht : P.underlying t = some (.slice e)) (hk : P.cellsOf e = k) (hk0 : 0 < k)
    {fuel : Nat} {cs : List Value} {x : DataW H × List MemPlace} (h : DataW.trod enc P w 0 (fun _ => true) true fuel t cs = some x)
    (hel : ∀ (n : Nat) (cs' : List Value) (D : DataW H) (Pl : List MemPlace), cs'.length = k → DataW.trod enc P w 0 (fun _ => true) true n e cs' = some (D, Pl) → Rows.uptoBulk D < Rows.uptoBulk x.1 → ∃ y, El cs' D y) :
    ∃ (A : Option Addr) (n c : Nat) (xs : List X) (Ds : List (DataW H)), cs = [.slice A n c] ∧ xs.length = n ∧ Ds.length = n ∧ n ≤ c ∧ c ≤ maxLen ∧ Rows.uptoBulkAll Ds + 1 ≤ Rows.uptoBulk x.1 ∧
      (0 < n → ∃ b off, A = some ⟨b, off, none⟩ ∧ b < w.heap.size ∧ ∀ i (h1 : i < xs.length) (h2 : i < Ds.length), ∃ cs' : List Value, cs'.length = k ∧ (∀ j (hj : j < cs'.length), w.cell? ⟨b, off + i * k + j, none⟩ = some cs'[j]) ∧ El cs' Ds[i] xs[i]) := by
  rcases open_slice ht h with ⟨hcs, hx⟩ | ⟨a, l, c', m, n', D, Pl, hcs, hb, hln, hm, hmm, hx, hi⟩
  · exact ⟨none, 0, 0, [], [], hcs, rfl, rfl, Nat.le_refl _, Nat.zero_le _, by rw [hx]; simp [Rows.uptoBulk, Rows.uptoBulkAll], fun h => absurd h (by omega)⟩
  · simp only [if_true] at hmm
    subst hmm
    subst hx
    have hbk : Rows.uptoBulkAll ((List.range l).map D) + 1 ≤ Rows.uptoBulk (DataW.slice ((List.range l).map D) ((List.range (m - l)).map fun j => D (l + j))) := by
      simp only [Rows.uptoBulk]
      omega
    have hall : ∀ i, i < l → ∃ x : X, ∃ b off, a = ⟨b, off, none⟩ ∧ b < w.heap.size ∧ ∃ cs' : List Value, cs'.length = k ∧ (∀ j (hj : j < cs'.length), w.cell? ⟨b, off + i * k + j, none⟩ = some cs'[j]) ∧ El cs' (D i) x := by
      intro i hin
      obtain ⟨cs', hc, ht'⟩ := hi i (by omega)
      rw [hk] at hc
      obtain ⟨_, hcl, hat⟩ := World.cells?_some hc
      obtain ⟨x, hx⟩ := hel _ _ _ _ hcl ht' (by
        have := bulk_part (List.mem_map.2 ⟨i, List.mem_range.2 hin, rfl⟩ : D i ∈ (List.range l).map D)
        show Rows.uptoBulk (D i) < Rows.uptoBulk (DataW.slice ((List.range l).map D) ((List.range (m - l)).map fun j => D (l + j)))
        omega)
      obtain ⟨b, off, sp⟩ := a
      have hs : sp = none := by
        obtain ⟨cs0, hc0, _⟩ := hi 0 (by omega)
        rw [hk] at hc0
        have d0 := (World.cells?_some hc0).2.2 0 (by omega)
        simp only [Nat.zero_mul, Nat.add_zero, Addr.add, if_true] at d0
        rw [List.getElem?_eq_getElem (by rw [(World.cells?_some hc0).2.1]; exact hk0)] at d0
        exact spot_none d0
      subst hs
      simp only [Go.Deep.add_add] at hat
      have h0 := hat 0 (by omega)
      rw [addr_add, List.getElem?_eq_getElem (by omega)] at h0
      refine ⟨x, b, off, rfl, World.block_lt_of_cell? _ _ h0, cs', hcl, fun j hj => ?_, hx⟩
      have hj' := hat j (by omega)
      rw [addr_add, List.getElem?_eq_getElem hj] at hj'
      rw [Nat.add_assoc]
      exact hj'
    obtain ⟨f, hf⟩ := choose_lt hall
    refine ⟨some a, l, m, (List.range l).map f, (List.range l).map D, hcs, by simp, by simp, hln, hm, hbk, fun hn => ?_⟩
    obtain ⟨b, off, rfl, hb, _⟩ := hf 0 hn
    refine ⟨b, off, rfl, hb, fun i h1 h2 => ?_⟩
    rw [List.length_map, List.length_range] at h1
    obtain ⟨b', off', e, _, h'⟩ := hf i h1
    injection e with e1 e2 _
    subst e1; subst e2
    simpa using h'

/-- the bounds of what a node says -/
def NodeOk (t : TyD) : Prop := (0 ≤ t.k ∧ t.k ≤ 255) ∧ (-9223372036854775808 ≤ t.n ∧ t.n ≤ 9223372036854775807) ∧ (-9223372036854775808 ≤ t.v ∧ t.v ≤ 9223372036854775807) ∧ (0 ≤ t.c ∧ t.c ≤ 255)
/-- a type in five cells -/
def TyC (w : World) (cs : List Value) (D : DataW H) (t : TyD) : Prop :=
  ∃ A m cp, cs = [.int .u8 t.k, .int .i64 t.n, .int .i64 t.v, .int .u8 t.c, .slice A m cp] ∧ TysV w w.heap.size A m cp t.l ∧ nodes t ≤ Rows.uptoBulk D ∧ NodeOk t
theorem tys_of {A : Option Addr} {n c : Nat} {xs : List TyD} {Ds : List (DataW H)} (h1 : xs.length = n) (h2 : n ≤ c) (h3 : c ≤ maxLen) (hd : Ds.length = n)
    (h4 : 0 < n → ∃ b off, A = some ⟨b, off, none⟩ ∧ b < w.heap.size ∧ ∀ i (h1 : i < xs.length) (h2 : i < Ds.length), ∃ cs' : List Value, cs'.length = 5 ∧ (∀ j (hj : j < cs'.length), w.cell? ⟨b, off + i * 5 + j, none⟩ = some cs'[j]) ∧ TyC w cs' Ds[i] xs[i]) :
    TysV w w.heap.size A n c xs ∧ nodes.nodesL xs ≤ Rows.uptoBulkAll Ds := by
  refine ⟨⟨h1, h2, h3, fun hn => ?_⟩, ?_⟩
  · obtain ⟨b, off, e, hb, hc⟩ := h4 hn
    refine ⟨b, off, e, hb, TyRow.of fun i hi => ?_⟩
    obtain ⟨cs', hcl, hat, A', n', c', rfl, hr, _⟩ := hc i hi (by omega)
    exact tyAt_iff.2 ⟨hat 0 (by simp), hat 1 (by simp), hat 2 (by simp), hat 3 (by simp), A', n', c', hat 4 (by simp), hr⟩
  · have key : ∀ i (h1 : i < xs.length) (h2 : i < Ds.length), nodes xs[i] ≤ Rows.uptoBulk Ds[i] := fun i hi hd' => by
      obtain ⟨b, off, e, hb, hc⟩ := h4 (by omega)
      obtain ⟨cs', _, _, _, _, _, _, _, hn, _⟩ := hc i hi hd'
      exact hn
    clear h4
    have : ∀ (xs : List TyD) (Ds : List (DataW H)), xs.length = Ds.length → (∀ i (h1 : i < xs.length) (h2 : i < Ds.length), nodes xs[i] ≤ Rows.uptoBulk Ds[i]) → nodes.nodesL xs ≤ Rows.uptoBulkAll Ds := by
      intro xs
      induction xs with
      | nil => intro Ds _ _; simp [nodes.nodesL]
      | cons x xs ih =>
        intro Ds hl hk
        cases Ds with
        | nil => simp at hl
        | cons d Ds =>
          have h0 := hk 0 (by simp) (by simp)
          have h1 := ih Ds (by simpa using hl) (fun i a b => by have := hk (i + 1) (by simp; omega) (by simp; omega); simpa using this)
          simp only [nodes.nodesL, Rows.uptoBulkAll]
          simp only [List.getElem_cons_zero] at h0
          omega
    exact this xs Ds (by omega) key
set_option maxRecDepth 100000 in
theorem mu_cells {fuel : Nat} {a b : Value} {x : DataW H × List MemPlace} (h : DataW.trod enc Tryd.prog w 0 (fun _ => true) true fuel 24 [a, b] = some x) :
    ∃ v c, a = .int .i64 v ∧ b = .int .u8 c ∧ (-9223372036854775808 ≤ v ∧ v ≤ 9223372036854775807) ∧ (0 ≤ c ∧ c ≤ 255) := by
  obtain ⟨xs, n, rfl, rfl, hcl, hxl, hf⟩ := DataW.trod_struct Tryd.underlying24 h
  obtain ⟨y0, y1, rfl⟩ : ∃ y0 y1, xs = [y0, y1] := by
    match xs, hxl with
    | [a, b], _ => exact ⟨a, b, rfl⟩
  have k0 := hf 0 _ rfl
  have k1 := hf 1 _ rfl
  replace k0 : DataW.trod enc Tryd.prog w 0 (fun _ => true) true n 3 (([a, b].drop 0).take (Tryd.prog.cellsOf 3)) = some y0 := k0
  rw [show Tryd.prog.cellsOf 3 = 1 from by kernel_rfl] at k0
  replace k1 : DataW.trod enc Tryd.prog w 0 (fun _ => true) true n 22 (([a, b].drop 1).take (Tryd.prog.cellsOf 22)) = some y1 := k1
  rw [show Tryd.prog.cellsOf 22 = 1 from by kernel_rfl] at k1
  obtain ⟨n0, e0, _, w0⟩ := DataW.trod_int Tryd.underlying3 k0
  obtain ⟨n1, e1, _, w1⟩ := DataW.trod_int Tryd.underlying22 k1
  injection e0 with e0 _
  injection e1 with e1 _
  exact ⟨n0, n1, e0, e1, bounds_i64 w0, bounds_u8 w1⟩
set_option maxRecDepth 100000 in
set_option maxHeartbeats 1000000 in
theorem ty_cells : ∀ (N : Nat) (D : DataW H), Rows.uptoBulk D ≤ N → ∀ {fuel : Nat} {cs : List Value} {Pl : List MemPlace}, DataW.trod enc Tryd.prog w 0 (fun _ => true) true fuel 27 cs = some (D, Pl) → ∃ t, TyC w cs D t := by
  intro N
  induction N with
  | zero => intro D hD; have := bulk_pos D; omega
  | succ N ih =>
    intro D hD fuel cs Pl h
    obtain ⟨xs, n, rfl, e, hcl, hxl, hf⟩ := DataW.trod_struct Tryd.underlying27 h
    injection e with e _
    subst e
    have hl5 : cs.length = 5 := hcl.trans (by kernel_rfl)
    obtain ⟨a, b, c, d, s, rfl⟩ : ∃ a b c d s, cs = [a, b, c, d, s] := by
      match cs, hl5 with
      | [a, b, c, d, s], _ => exact ⟨a, b, c, d, s, rfl⟩
    obtain ⟨y0, y1, y2, y3, rfl⟩ : ∃ y0 y1 y2 y3, xs = [y0, y1, y2, y3] := by
      match xs, hxl with
      | [a, b, c, d], _ => exact ⟨a, b, c, d, rfl⟩
    have k0 := hf 0 _ rfl
    have k1 := hf 1 _ rfl
    have k2 := hf 2 _ rfl
    have k3 := hf 3 _ rfl
    replace k0 : DataW.trod enc Tryd.prog w 0 (fun _ => true) true n 5 (([a, b, c, d, s].drop 0).take (Tryd.prog.cellsOf 5)) = some y0 := k0
    rw [show Tryd.prog.cellsOf 5 = 1 from by kernel_rfl] at k0
    replace k1 : DataW.trod enc Tryd.prog w 0 (fun _ => true) true n 3 (([a, b, c, d, s].drop 1).take (Tryd.prog.cellsOf 3)) = some y1 := k1
    rw [show Tryd.prog.cellsOf 3 = 1 from by kernel_rfl] at k1
    replace k2 : DataW.trod enc Tryd.prog w 0 (fun _ => true) true n 24 (([a, b, c, d, s].drop 2).take (Tryd.prog.cellsOf 24)) = some y2 := k2
    rw [show Tryd.prog.cellsOf 24 = 2 from by kernel_rfl] at k2
    replace k3 : DataW.trod enc Tryd.prog w 0 (fun _ => true) true n 25 (([a, b, c, d, s].drop 4).take (Tryd.prog.cellsOf 25)) = some y3 := k3
    rw [show Tryd.prog.cellsOf 25 = 1 from by kernel_rfl] at k3
    obtain ⟨n0, e0, _, w0⟩ := DataW.trod_int Tryd.underlying5 k0
    obtain ⟨n1, e1, _, w1⟩ := DataW.trod_int Tryd.underlying3 k1
    obtain ⟨vv, cc, e2, e3, w2, w3⟩ := mu_cells (a := c) (b := d) k2
    injection e0 with e0 _
    injection e1 with e1 _
    subst e0; subst e1; subst e2; subst e3
    have hb3 : Rows.uptoBulk y3.1 + 1 ≤ Rows.uptoBulk (DataW.agg ([y0, y1, y2, y3].map (·.1))) := by
      simp only [List.map_cons, List.map_nil, Rows.uptoBulk, Rows.uptoBulkAll]
      omega
    obtain ⟨A, m, cp, ts, Ds, e4, h1, h2, h3, h4, h5, h6⟩ := rows_q 5 (TyC w) Tryd.underlying25 (by kernel_rfl) (by omega) k3 (fun n cs' D Pl _ ht hlt => ih D (by omega) ht)
    have e4' : [s] = [.slice A m cp] := e4
    injection e4' with e4' _
    subst e4'
    obtain ⟨hts, hnod⟩ := tys_of h1 h3 h4 h2 h6
    refine ⟨.mk n0 n1 vv cc ts, A, m, cp, rfl, hts, ?_, bounds_u8 w0, bounds_i64 w1, w2, w3⟩
    rw [nodes_eq]
    show 1 + nodes.nodesL ts ≤ _
    omega

/-- the type that came in -/
def TyB (w : World) (v : Value) (d : DataW H) : Prop := ∃ (t : TyD) (A : Option Addr) (m cp : Nat), v = .agg #[.int .u8 t.k, .int .i64 t.n, .int .i64 t.v, .int .u8 t.c, .slice A m cp] ∧ TysV w w.heap.size A m cp t.l ∧ nodes t ≤ Rows.uptoBulk d ∧ NodeOk t
set_option maxRecDepth 100000 in
theorem rd_ty {r : Reach} {b0 : Nat} {v : Value} {d : DataW H} {ps : List MemPlace} (hval : Value.okWide Tryd.prog w r b0 27 v) (h : DataW.Trod enc Tryd.prog w 0 (fun _ => true) true 27 v d ps) : TyB w v d := by
  obtain ⟨cs, rfl, hsz⟩ := okWide_struct Tryd.underlying27 hval
  obtain ⟨fuel, hf⟩ := h
  obtain ⟨t, A, m, cp, e, hr, hn, hk⟩ := ty_cells _ d (Nat.le_refl _) hf
  refine ⟨t, A, m, cp, ?_, hr, hn, hk⟩
  have : cs.toList = [.int .u8 t.k, .int .i64 t.n, .int .i64 t.v, .int .u8 t.c, .slice A m cp] := e
  rw [show cs = #[.int .u8 t.k, .int .i64 t.n, .int .i64 t.v, .int .u8 t.c, .slice A m cp] from Array.toList_inj.mp this]
/-- the types that came in -/
def TysB (w : World) (v : Value) (d : DataW H) : Prop := ∃ (A : Option Addr) (n c : Nat) (xs : List TyD), v = .slice A n c ∧ TysV w w.heap.size A n c xs ∧ nodes.nodesL xs ≤ Rows.uptoBulk d
set_option maxRecDepth 100000 in
theorem rd_tys {r : Reach} {b0 : Nat} {v : Value} {d : DataW H} {ps : List MemPlace} (hval : Value.okWide Tryd.prog w r b0 25 v) (h : DataW.Trod enc Tryd.prog w 0 (fun _ => true) true 25 v d ps) : TysB w v d := by
  obtain ⟨A, n, c, rfl⟩ := okWide_slice Tryd.underlying25 hval
  obtain ⟨fuel, hf⟩ := h
  obtain ⟨A', n', c', xs, Ds, e, h1, h2, h3, h4, h5, h6⟩ := rows_q 5 (TyC w) Tryd.underlying25 (by kernel_rfl) (by omega) hf (fun n cs' D Pl _ ht _ => ty_cells _ D (Nat.le_refl _) ht)
  have e' : Value.slice A n c = .slice A' n' c' := by simpa [Value.cells] using e
  obtain ⟨hts, hnod⟩ := tys_of h1 h3 h4 h2 h6
  have h5' : Rows.uptoBulkAll Ds + 1 ≤ Rows.uptoBulk d := h5
  exact ⟨A', n', c', xs, e', hts, by omega⟩
/-- the Mus that came in -/
def MusB (w : World) (v : Value) (d : DataW H) : Prop := ∃ (A : Option Addr) (n c : Nat) (ms : List (Int × Int)), v = .slice A n c ∧ MusV w w.heap.size A n c ms ∧ n ≤ Rows.uptoBulk d ∧ ∀ x ∈ ms, (-9223372036854775808 ≤ x.1 ∧ x.1 ≤ 9223372036854775807) ∧ 0 ≤ x.2 ∧ x.2 ≤ 255
set_option maxRecDepth 100000 in
theorem rd_mus {r : Reach} {b0 : Nat} {v : Value} {d : DataW H} {ps : List MemPlace} (hval : Value.okWide Tryd.prog w r b0 41 v) (h : DataW.Trod enc Tryd.prog w 0 (fun _ => true) true 41 v d ps) : MusB w v d := by
  obtain ⟨A, n, c, rfl⟩ := okWide_slice Tryd.underlying41 hval
  obtain ⟨fuel, hf⟩ := h
  obtain ⟨A', n', c', ms, Ds, e, h1, h2, h3, h4, h5, h6⟩ := rows_q 2 (fun cs (_ : DataW H) (x : Int × Int) => cs = [.int .i64 x.1, .int .u8 x.2] ∧ (-9223372036854775808 ≤ x.1 ∧ x.1 ≤ 9223372036854775807) ∧ 0 ≤ x.2 ∧ x.2 ≤ 255) Tryd.underlying41 (by kernel_rfl) (by omega) hf (fun n cs' D Pl hl ht _ => by
    obtain ⟨a, b, rfl⟩ : ∃ a b, cs' = [a, b] := by
      match cs', hl with
      | [a, b], _ => exact ⟨a, b, rfl⟩
    obtain ⟨vv, cc, e2, e3, w2, w3⟩ := mu_cells ht
    exact ⟨(vv, cc), by rw [e2, e3], w2, w3⟩)
  have e' : Value.slice A n c = .slice A' n' c' := by simpa [Value.cells] using e
  have h5' : Rows.uptoBulkAll Ds + 1 ≤ Rows.uptoBulk d := h5
  refine ⟨A', n', c', ms, e', ⟨h1, h3, h4, fun hn => ?_⟩, by have := bulk_len Ds; omega, fun x hx => ?_⟩
  · obtain ⟨b, off, e, hb, hc⟩ := h6 hn
    refine ⟨b, off, e, hb, fun i hi => ?_⟩
    obtain ⟨cs', hcl, hat, rfl, _⟩ := hc i hi (by omega)
    exact ⟨hat 0 (by simp), hat 1 (by simp)⟩
  · obtain ⟨i, hi, rfl⟩ := List.getElem_of_mem hx
    obtain ⟨b, off, e, hb, hc⟩ := h6 (by omega)
    obtain ⟨cs', _, _, _, hw⟩ := hc i hi (by omega)
    exact hw
/-- the texts that came in -/
def NmsB (w : World) (v : Value) (d : DataW H) : Prop := ∃ (A : Option Addr) (n c : Nat) (ws : List ByteArray), v = .slice A n c ∧ NmV w w.heap.size A n c ws ∧ n ≤ Rows.uptoBulk d ∧ ∀ x ∈ ws, x.size ≤ Rows.uptoBulk d
end
end Go.Proofs.YtidamlkekgnhgaaDoor
