/- Rows of uses and of terms that a call builds; sorted rows of ints; uses.of, its result below the lists. -/
import Derived.Test.YtimlbpjdgnapoaaUsesC
import Derived.Test.YtimlbpjdgnapoaaTermE
import Derived.Test.YtimlbpjdgnapoaaSortI
import Derived.Test.YtimlbpjdgnapoaaTermQ
namespace Go.Proofs.Ytimlbpjdgnapoaa
set_option linter.unusedVariables false
set_option linter.unusedSimpArgs false
open Go.RowKit Go.Sort

theorem usageInfo : (Try.prog.info? 41).map (fun i => (i.zero, i.size, i.bytes)) = some (some (.agg #[.int .i64 0, .bool false, .int .u8 0, .slice none 0 0]), 4, 40) := by kernel_rfl

/-- four cells of a row read as a use; its variables lie out of block own -/
def C4 (w : World) (own : Option Nat) (cs : List Value) (i : Nat) (x : UseD) : Prop :=
  ∃ A n c, cs[i * 4]? = some (.int .i64 x.v) ∧ cs[i * 4 + 1]? = some (.bool x.t.never) ∧ cs[i * 4 + 2]? = some (.int .u8 x.t.c) ∧ cs[i * 4 + 3]? = some (.slice A n c) ∧ RdI .i64 w w.heap.size A n c x.t.vars ∧ (0 < n → ∃ a, A = some a ∧ some a.block ≠ own)
/-- a row of uses of the call's own -/
def OwnU (w : World) (base : Nat) (v : Value) (n : Nat) (xs : List UseD) : Prop :=
  xs.length = n ∧ ∃ cs, w.ownsRow base 41 4 v n cs ∧ ∀ i (h : i < xs.length), C4 w v.ownBlock cs i xs[i]

theorem rdI_far {k : IntKind} {w w' : World} {row : Option Nat} {A : Option Addr} {n c : Nat} {us : List Int} (h : RdI k w w.heap.size A n c us) (hg : w.grownBy w' row) (hf : 0 < n → ∃ a, A = some a ∧ some a.block ≠ row) : RdI k w' w'.heap.size A n c us := by
  refine ⟨⟨h.1.1, fun hn => ?_⟩, h.2⟩
  obtain ⟨b, off, e, hb, hc⟩ := h.1.2 hn
  obtain ⟨a, e', hne⟩ := hf hn
  rw [e] at e'
  injection e' with e'
  subst e'
  exact ⟨b, off, e, Nat.lt_of_lt_of_le hb hg.size, fun j u hu => (World.cell?_of_block (hg.block b hb hne)).trans (hc j u hu)⟩

theorem OwnU.nil (w : World) (base : Nat) : OwnU w base (.slice none 0 0) 0 [] := ⟨rfl, [], World.ownsRow_nil _ _ _ _, fun i hi => absurd hi (by simp)⟩
theorem OwnU.beyond {w w' : World} {base : Nat} {v : Value} {n : Nat} {xs : List UseD} (h : OwnU w base v n xs) (hb : Below w.heap.size w w') : OwnU w' base v n xs := by
  obtain ⟨h1, cs, ho, hc⟩ := h
  refine ⟨h1, cs, ownsRow_beyond ho hb, fun i hi => ?_⟩
  obtain ⟨A, m, c, e0, e1, e2, e3, hr, hf⟩ := hc i hi
  exact ⟨A, m, c, e0, e1, e2, e3, (hr.below hb).more hb.size, hf⟩
theorem OwnU.form {w : World} {base : Nat} {v : Value} {n : Nat} {xs : List UseD} (h : OwnU w base v n xs) : ∃ A c, v = .slice A n c := by
  obtain ⟨_, cs, ho, _⟩ := h
  exact ownsRow_form ho
theorem OwnU.uses {w : World} {base : Nat} {A : Option Addr} {n m c : Nat} {xs : List UseD} (h : OwnU w base (.slice A m c) n xs) : m = n ∧ UsesV w w.heap.size A n c xs := by
  obtain ⟨hl, cs, hown, h4⟩ := h
  rcases hown.2 with ⟨e0, hn⟩ | ⟨g, cap, cur, e0, hb, hg, hn, hm, hs, ht⟩
  · injection e0 with e1 e2 e3
    subst e1; subst e2; subst e3
    subst hn
    exact ⟨rfl, hl, Nat.le_refl _, Nat.zero_le _, fun h => absurd h (by omega)⟩
  · injection e0 with e1 e2 e3
    subst e1; subst e2; subst e3
    refine ⟨rfl, hl, hn, hm, fun _ => ⟨g, 0, rfl, (Array.getElem?_eq_some_iff.1 hg).1, fun i hi => ?_⟩⟩
    obtain ⟨A', n', c', f0, f1, f2, f3, hr, _⟩ := h4 i hi
    refine ⟨?_, A', n', c', ?_, ?_, ?_, hr⟩
    · rw [show 0 + i * 4 = i * 4 from by omega, hown.cellAt _ (by omega)]; exact f0
    · rw [show 0 + i * 4 + 1 = i * 4 + 1 from by omega, hown.cellAt _ (by omega)]; exact f1
    · rw [show 0 + i * 4 + 1 + 1 = i * 4 + 2 from by omega, hown.cellAt _ (by omega)]; exact f2
    · rw [show 0 + i * 4 + 1 + 2 = i * 4 + 3 from by omega, hown.cellAt _ (by omega)]; exact f3
theorem OwnU.lt {w : World} {base : Nat} {v : Value} {n : Nat} {xs : List UseD} (h : OwnU w base v n xs) : ∀ g, v.ownBlock = some g → base ≤ g ∧ g < w.heap.size := fun g e => by
  obtain ⟨_, cs, ho, _⟩ := h
  exact ho.lt g e

section
variable {P : Program}
/-- append of one use, just laid, to a row of the call's own -/
theorem wpList_append_use {ops : Array Oper} {rest : List Oper} {o : Oper} {a : Act} {Q : Exit → Act → World → Prop} (w0 w : World) (hgd : o.guard = none) (s x : Operand) (t : TypeId)
    (ho : o.op = .call { callee := .builtin .append, args := #[s, x], argTypes := #[t, t] })
    (base : Nat) (i : TypeInfo) (z : Value) (ht : P.underlying t = some (.slice 41)) (hi : P.info? 41 = some i) (hz : i.zero = some z)
    (hsize : i.size = 4) (hby : i.bytes = 40) (hzs : z.cells.size = 4)
    (v : Value) (n : Nat) (xs : List UseD) (hs : a.eval s = v) (u : UseD) (A : Option Addr) (m c : Nat) (hr : RdI .i64 w w.heap.size A m c u.t.vars) (hf : 0 < m → ∃ a, A = some a ∧ some a.block ≠ v.ownBlock) (hx : a.eval x = .slice (some ⟨w.heap.size, 0, none⟩) 1 1)
    (hown : OwnU w base v n xs) (hn : n ≤ 1099511627776) (hbel : Below base w0 w) (hbase : base ≤ w.heap.size)
    (h : ∀ A' c' w', OwnU w' base (.slice A' (n + 1) c') (n + 1) (xs ++ [u]) → Below base w0 w' → wpList P ops Q rest (a.put o.dst (.slice A' (n + 1) c')) w') :
    wpList P ops Q (o :: rest) a (w.alloc (Obj.cells #[.int .i64 u.v, .bool u.t.never, .int .u8 u.t.c, .slice A m c] 41)) := by
  obtain ⟨hl, cs, hown, h4⟩ := hown
  have hrd : Rd (w.alloc (Obj.cells #[.int .i64 u.v, .bool u.t.never, .int .u8 u.t.c, .slice A m c] 41)) (w.heap.size + 1) 4 (some ⟨w.heap.size, 0, none⟩) 1 [.int .i64 u.v, .bool u.t.never, .int .u8 u.t.c, .slice A m c] :=
    ⟨rfl, fun _ => ⟨w.heap.size, 0, rfl, Nat.lt_succ_self _, fun j u hu => by rw [Nat.zero_add, World.cell?_alloc_new]; simpa using hu⟩⟩
  refine wpList_append_rd (w.alloc (Obj.cells #[.int .i64 u.v, .bool u.t.never, .int .u8 u.t.c, .slice A m c] 41)) hgd s x t ho base 41 i z 4 40 ht hi hz hsize hby hzs (by omega) v n cs hs (hown.alloc _) (w.heap.size + 1) _ 1 1 _ hx hrd (by intro u hu; simp at hu; rcases hu with rfl | rfl | rfl | rfl <;> rfl) (by unfold maxLen; omega) (by omega) (by rw [World.size_alloc]; omega) fun v' w' h2 h3 h5 => ?_
  obtain ⟨A', c', rfl⟩ := ownsRow_form h2
  have hb1 : Below w.heap.size w (w.alloc (Obj.cells #[.int .i64 u.v, .bool u.t.never, .int .u8 u.t.c, .slice A m c] 41)) := below_box _
  have hg : w.grownBy w' v.ownBlock := ⟨h3.os, h3.tape, h3.output, Nat.le_trans (by rw [World.size_alloc]; omega) h3.size, fun k hk hne => (h3.block k (by rw [World.size_alloc]; omega) hne).trans (Below.heap_alloc w _ k hk)⟩
  have hfar : ∀ (B : Option Addr) (l d : Nat) (us : List Int), RdI .i64 w w.heap.size B l d us → (0 < l → ∃ a, B = some a ∧ some a.block ≠ v.ownBlock) → RdI .i64 w' w'.heap.size B l d us ∧ (0 < l → ∃ a, B = some a ∧ some a.block ≠ (Value.slice A' (n + 1) c').ownBlock) := by
    intro B l d us hB hF
    refine ⟨rdI_far hB hg hF, fun hl => ?_⟩
    obtain ⟨a, rfl, hne⟩ := hF hl
    refine ⟨a, rfl, ?_⟩
    rcases h5 with h5 | h5
    · rw [h5]; exact hne
    · rw [h5]
      obtain ⟨b, off, e, hb, _⟩ := hB.1.2 hl
      injection e with e
      subst e
      rw [World.size_alloc]
      intro e
      injection e with e
      have e' : b = w.heap.size + 1 := e
      omega
  have hcl : cs.length = n * 4 := hown.1
  refine h A' c' w' ⟨by simp [hl], _, h2, fun i hi => ?_⟩ ((hbel.alloc hbase _).grown h3 (by rw [World.size_alloc]; omega) (fun k hk => (hown.lt _ hk).1))
  rcases Nat.lt_or_ge i xs.length with h | h
  · obtain ⟨B, l, d, e0, e1, e2, e3, hB, hF⟩ := h4 i h
    obtain ⟨k1, k2⟩ := hfar B l d _ hB hF
    rw [List.getElem_append_left h]
    exact ⟨B, l, d, by rw [List.getElem?_append_left (by omega)]; exact e0, by rw [List.getElem?_append_left (by omega)]; exact e1, by rw [List.getElem?_append_left (by omega)]; exact e2, by rw [List.getElem?_append_left (by omega)]; exact e3, k1, k2⟩
  · have hi' : i = n := by simp at hi; omega
    subst hi'
    obtain ⟨k1, k2⟩ := hfar A m c _ hr hf
    rw [List.getElem_append_right (by omega)]
    simp only [hl, Nat.sub_self, List.getElem_cons_zero]
    refine ⟨A, m, c, ?_, ?_, ?_, ?_, k1, k2⟩
    · rw [List.getElem?_append_right (by omega), hcl, Nat.sub_self]; rfl
    · rw [List.getElem?_append_right (by omega), hcl, show i * 4 + 1 - i * 4 = 1 from by omega]; rfl
    · rw [List.getElem?_append_right (by omega), hcl, show i * 4 + 2 - i * 4 = 2 from by omega]; rfl
    · rw [List.getElem?_append_right (by omega), hcl, show i * 4 + 3 - i * 4 = 3 from by omega]; rfl

/-- append of one term, just laid, to a row of the call's own; the terms' variables lie below B -/
theorem wpList_append_term {ops : Array Oper} {rest : List Oper} {o : Oper} {a : Act} {Q : Exit → Act → World → Prop} (w0 w : World) (hgd : o.guard = none) (s x : Operand) (t : TypeId)
    (ho : o.op = .call { callee := .builtin .append, args := #[s, x], argTypes := #[t, t] })
    (base B : Nat) (i : TypeInfo) (z : Value) (ht : P.underlying t = some (.slice 37)) (hi : P.info? 37 = some i) (hz : i.zero = some z)
    (hsize : i.size = 3) (hby : i.bytes = 32) (hzs : z.cells.size = 3)
    (v : Value) (n : Nat) (ts : List TermD) (hs : a.eval s = v) (u : TermD) (A : Option Addr) (m c : Nat) (hr : RdI .i64 w B A m c u.vars) (hx : a.eval x = .slice (some ⟨w.heap.size, 0, none⟩) 1 1)
    (hown : OwnT w base B v n ts) (hn : n ≤ 1099511627776) (hbel : Below base w0 w) (hbase : base ≤ w.heap.size) (hB : B ≤ base)
    (h : ∀ A' c' w', OwnT w' base B (.slice A' (n + 1) c') (n + 1) (ts ++ [u]) → Below base w0 w' → wpList P ops Q rest (a.put o.dst (.slice A' (n + 1) c')) w') :
    wpList P ops Q (o :: rest) a (w.alloc (Obj.cells #[.bool u.never, .int .u8 u.c, .slice A m c] 37)) := by
  obtain ⟨hl, cs, hown, h4⟩ := hown
  refine wpList_append_one w0 w hgd s x t ho base 37 i z 3 32 ht hi hz hsize hby hzs (by omega) v n cs hs [.bool u.never, .int .u8 u.c, .slice A m c] rfl (by intro u hu; simp at hu; rcases hu with rfl | rfl | rfl <;> rfl) hx hown (by unfold maxLen; omega) (by omega) hbel hbase fun A' c' w' h2 h3 hg h5 => ?_
  have hcl : cs.length = n * 3 := hown.1
  have hk : ∀ p : Addr, p.block < B → w'.cell? p = w.cell? p := fun p hp => World.cell?_of_block (hg.block p.block (by omega) (fun e => by have := (hown.lt _ e.symm).1; omega))
  refine h A' c' w' ⟨by simp [hl], _, h2, fun i hi => ?_⟩ h3
  rcases Nat.lt_or_ge i ts.length with h | h
  · obtain ⟨B, l, d, e0, e1, e2, hB⟩ := h4 i h
    rw [List.getElem_append_left h]
    exact ⟨B, l, d, by rw [List.getElem?_append_left (by omega)]; exact e0, by rw [List.getElem?_append_left (by omega)]; exact e1, by rw [List.getElem?_append_left (by omega)]; exact e2, hB.keep hk⟩
  · have hi' : i = n := by simp at hi; omega
    subst hi'
    rw [List.getElem_append_right (by omega)]
    simp only [hl, Nat.sub_self, List.getElem_cons_zero]
    refine ⟨A, m, c, ?_, ?_, ?_, hr.keep hk⟩
    · rw [List.getElem?_append_right (by omega), hcl, Nat.sub_self]; rfl
    · rw [List.getElem?_append_right (by omega), hcl, show i * 3 + 1 - i * 3 = 1 from by omega]; rfl
    · rw [List.getElem?_append_right (by omega), hcl, show i * 3 + 2 - i * 3 = 2 from by omega]; rfl
end

theorem OwnT.nil (w : World) (base B : Nat) : OwnT w base B (.slice none 0 0) 0 [] := ⟨rfl, [], World.ownsRow_nil _ _ _ _, fun i hi => absurd hi (by simp)⟩
theorem OwnT.beyond {w w' : World} {base B : Nat} {v : Value} {n : Nat} {ts : List TermD} (h : OwnT w base B v n ts) (hB : B ≤ w.heap.size) (hb : Below w.heap.size w w') : OwnT w' base B v n ts := by
  obtain ⟨h1, cs, ho, hc⟩ := h
  refine ⟨h1, cs, ownsRow_beyond ho hb, fun i hi => ?_⟩
  obtain ⟨A, m, c, e0, e1, e2, hr⟩ := hc i hi
  exact ⟨A, m, c, e0, e1, e2, hr.below (hb.mono hB)⟩

/-- slices.Sort and slices.Compact over a row of ints of the call's own, empty or not -/
theorem sort0_any (base : Nat) (v : Value) (us : List Int) (w0 w : World) (ho : w.ownsRow base 3 1 v us.length (us.map (Value.int .i64))) (hm : us.length < 4611686018427387904) (hbel : Below base w0 w) (hbase : base ≤ w.heap.size) :
    Calls Try.prog 62 #[v] w fun e w' => e = .returned (.tuple #[]) ∧ w'.ownsRow base 3 1 v us.length ((us.mergeSort fun x y => decide (x ≤ y)).map (Value.int .i64)) ∧ Below base w0 w' ∧ w.heap.size ≤ w'.heap.size := by
  by_cases h0 : us = []
  · subst h0
    obtain ⟨A, c, rfl⟩ := ownsRow_form ho
    refine (Try.slices_Sort_int_none A c w).mono ?_
    rintro e w' ⟨rfl, rfl⟩
    exact ⟨rfl, by simpa using ho, hbel, Nat.le_refl _⟩
  · refine (sortI_any base v us w ho h0 hm).mono ?_
    rintro e w' ⟨rfl, h1, h2⟩
    exact ⟨rfl, h1, hbel.grown h2 hbase (fun k hk => (ho.lt _ hk).1), h2.size⟩
theorem compact0_any (base : Nat) (v : Value) (us : List Int) (w0 w : World) (ho : w.ownsRow base 3 1 v us.length (us.map (Value.int .i64))) (hbel : Below base w0 w) :
    Calls Try.prog 63 #[v] w fun e w' => ∃ A c, e = .returned (.slice A (Lib.compact us).length c) ∧ w'.ownsRow base 3 1 (.slice A (Lib.compact us).length c) (Lib.compact us).length ((Lib.compact us).map (Value.int .i64)) ∧ Below base w0 w' ∧ w.heap.size ≤ w'.heap.size := by
  by_cases h0 : us = []
  · subst h0
    obtain ⟨A, c, rfl⟩ := ownsRow_form ho
    refine (Try.slices_Compact_int_empty A c w).mono ?_
    rintro e w' ⟨rfl, rfl⟩
    exact ⟨A, c, rfl, ho, hbel, Nat.le_refl _⟩
  · have hn0 : us.length ≠ 0 := fun e => h0 (List.eq_nil_of_length_eq_zero e)
    have hv : v ≠ .slice none 0 0 := by
      rintro rfl
      rcases ho.2 with ⟨_, e⟩ | ⟨_, _, _, e, _⟩
      · exact hn0 e
      · cases e
    obtain ⟨g, cap, rfl, hg1, hg2, hgc, hgm, hl, hH⟩ := Lib.holds_of_ownsRow ho hv
    have hk : (Lib.compact us).length ≤ us.length := compact_le us
    refine (Try.slices_Compact_int g 0 cap us w hH (by unfold maxLen at hgm; omega) hgc).mono ?_
    rintro e w' ⟨rfl, q, hw⟩
    refine ⟨_, _, rfl, ?_, ?_, ?_⟩
    · have h3 := Lib.ownsRow_putRow (q := q) (k := (Lib.compact us).length) ho (ys := Lib.compact us ++ List.replicate (us.length - (Lib.compact us).length) 0) (by rw [List.length_append, List.length_replicate]; omega) hk
      rw [List.take_left' rfl] at h3
      rw [hw]; exact h3
    · rw [hw]; exact Lib.below_putRow hbel hg1
    · rw [hw]; exact (Lib.below_putRow (Below.refl 0 w) (Nat.zero_le _)).size

/-- the call returns the term t, its variables below B -/
def RetL (B : Nat) (t : TermD) (w : World) (e : Ending) (w' : World) : Prop :=
  ∃ A n c, e = .returned (.agg #[.bool t.never, .int .u8 t.c, .slice A n c]) ∧ RdI .i64 w' B A n c t.vars ∧ Below w.heap.size w w'

theorem ofU_low (B : Nat) (v : Int) (A : Option Addr) (n c : Nat) (xs : List UseD) (w : World) (hx : UsesV w B A n c xs) (hB : B ≤ w.heap.size) (hr : RiseU xs) (hv : -9223372036854775808 ≤ v ∧ v ≤ 9223372036854775807) (hn : n ≤ 1048576) :
    Calls Try.prog 50 #[.slice A n c, .int .i64 v] w (RetL B (ofU xs v) w) := by
  have hxl := hx.len
  have n63 : n ≤ 9223372036854775807 := by omega
  have hb0 := below_box (w := w) (Obj.cells #[.bool false, .int .u8 0, .slice none 0 0] 37)
  have hk0 := blk_new w #[.bool false, .int .u8 0, .slice none 0 0] 37
  have hs := find_any v A n c xs (w.alloc (Obj.cells #[.bool false, .int .u8 0, .slice none 0 0] 37)) (((hx.more hB).below hb0).more hb0.size) hr hv hn
  have Hs := Lib.hid hs
  have Hb0 := Lib.hid hb0
  have Hk0 := Lib.hid hk0
  have Hx := Lib.hid hx
  have Hr := Lib.hid hr
  clear hs hb0 hk0 hx hr
  go_enter Try.func50, Try.ntmps50
  go_wp2_with fail
  refine Hs.out.mono ?_
  rintro e w1 ⟨i, b, rfl, h1, h2, hb⟩
  have hk1 := Hk0.out.below hb Hk0.out.lt
  have hb1 := Hb0.out.trans (hb.mono Hb0.out.size)
  have f0 := hk1.frozen 0
  have f1 := hk1.frozen 1
  have f2 := hk1.frozen 2
  have c0 : w1.cell? ⟨w.heap.size, 0, none⟩ = some (.bool false) := hk1.cell 0
  have c1 : w1.cell? ⟨w.heap.size, 1, none⟩ = some (.int .u8 0) := hk1.cell 1
  have c2 : w1.cell? ⟨w.heap.size, 2, none⟩ = some (.slice none 0 0) := hk1.cell 2
  have Hk1 := Lib.hid hk1
  have Hb1 := Lib.hid hb1
  cases b with
  | true =>
    obtain ⟨hil, hiv⟩ := h1 rfl
    have hof := ofU_some Hr.out hil hiv
    obtain ⟨bb, oo, q, hbb, hc⟩ := (Hx.out.below (hb1.mono hB)).at_ (by omega)
    subst q
    obtain ⟨_, Ax, nx, cx, e1, e2, e3, hrx⟩ := hc i hil
    obtain ⟨⟨xv, nv, tc, vs⟩, hx⟩ : ∃ x, xs[i] = x := ⟨_, rfl⟩
    rw [hx] at e1 e2 hrx hof
    dsimp only at e1 e2 hrx hof
    have Hof := Lib.hid hof
    replace e2 : w1.cell? ⟨bb, oo + i * 4 + 2, none⟩ = some (.int .u8 tc) := e2
    replace e3 : w1.cell? ⟨bb, oo + i * 4 + 3, none⟩ = some (.slice Ax nx cx) := e3
    have i1 : (0 : Int) ≤ (i : Int) := by omega
    have i2 : (i : Int) < n := by omega
    have Hrx := Lib.hid hrx
    clear hc hrx h1 h2 hb hof hx hiv hk1 hb1
    go_wp2_with fail
    rw [Hof.out]
    have hs := Hk1.out.set3 (.bool nv) (.int .u8 tc) (.slice Ax nx cx)
    have hb3 := ((Hb1.out.setCell (p := ⟨w.heap.size, 0, none⟩) (Nat.le_refl _) (.bool nv)).setCell (p := ⟨w.heap.size, 1, none⟩) (Nat.le_refl _) (.int .u8 tc)).setCell (p := ⟨w.heap.size, 2, none⟩) (Nat.le_refl _) (.slice Ax nx cx)
    have hr9 := Hrx.out.put3 Hk1.out (.bool nv) (.int .u8 tc) (.slice Ax nx cx)
    generalize (((w1.setCell ⟨w.heap.size, 0, none⟩ (.bool nv)).setCell ⟨w.heap.size, 1, none⟩ (.int .u8 tc)).setCell ⟨w.heap.size, 2, none⟩ (.slice Ax nx cx)) = W3 at hs hb3 hr9 ⊢
    have d0 : W3.cell? ⟨w.heap.size, 0, none⟩ = some (.bool nv) := hs.cell 0
    have d1 : W3.cell? ⟨w.heap.size, 1, none⟩ = some (.int .u8 tc) := hs.cell 1
    have d2 : W3.cell? ⟨w.heap.size, 2, none⟩ = some (.slice Ax nx cx) := hs.cell 2
    exact bodyPost_ret (v := .agg #[.bool nv, .int .u8 tc, .slice Ax nx cx]) (by simp [results, Try.results50, go_sem, d0, d1, d2]) rfl ⟨_, _, _, rfl, hr9, hb3⟩
  | false =>
    have Hof := Lib.hid (ofU_none (h2 rfl))
    have Hrx : Hid (RdI .i64 w1 B none 0 0 []) := Lib.hid RdI.nil
    clear h1 h2 hb hk1 hb1
    go_wp2_with fail
    rw [Hof.out]
    have hs := Hk1.out.set3 (.bool true) (.int .u8 0) (.slice none 0 0)
    have hb3 := ((Hb1.out.setCell (p := ⟨w.heap.size, 0, none⟩) (Nat.le_refl _) (.bool true)).setCell (p := ⟨w.heap.size, 1, none⟩) (Nat.le_refl _) (.int .u8 0)).setCell (p := ⟨w.heap.size, 2, none⟩) (Nat.le_refl _) (.slice none 0 0)
    have hr9 := Hrx.out.put3 Hk1.out (.bool true) (.int .u8 0) (.slice none 0 0)
    generalize (((w1.setCell ⟨w.heap.size, 0, none⟩ (.bool true)).setCell ⟨w.heap.size, 1, none⟩ (.int .u8 0)).setCell ⟨w.heap.size, 2, none⟩ (.slice none 0 0)) = W3 at hs hb3 hr9 ⊢
    have d0 : W3.cell? ⟨w.heap.size, 0, none⟩ = some (.bool true) := hs.cell 0
    have d1 : W3.cell? ⟨w.heap.size, 1, none⟩ = some (.int .u8 0) := hs.cell 1
    have d2 : W3.cell? ⟨w.heap.size, 2, none⟩ = some (.slice none 0 0) := hs.cell 2
    exact bodyPost_ret (v := .agg #[.bool true, .int .u8 0, .slice none 0 0]) (by simp [results, Try.results50, go_sem, d0, d1, d2]) rfl ⟨_, _, _, rfl, hr9, hb3⟩

end Go.Proofs.Ytimlbpjdgnapoaa
