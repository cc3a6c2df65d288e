/- Words for memory that the contracts share: whole blocks, rows of the call's own, stores of a struct. No program's function. -/
import Derived.Test.YthabkpkgocafoaaTermB
import Derived.Test.YthabkpkgocafoaaApp
import Derived.Lib.OwnBridge
namespace Go.Proofs.Ythabkpkgocafoaa
set_option linter.unusedVariables false
set_option linter.unusedSimpArgs false
open Go.RowKit

/-- what a slice of the call's own reads as -/
theorem RdI.of_own {k : IntKind} {w : World} {base : Nat} {e : TypeId} {A : Option Addr} {n c : Nat} {us : List Int} (h : w.ownsRow base e 1 (.slice A n c) n (us.map (Value.int k))) : RdI k w w.heap.size A n c us := by
  rcases h.2 with ⟨e0, hn⟩ | ⟨g, cap, cur, e0, hb, hg, hn, hm, hs, ht⟩
  · injection e0 with e1 e2 e3
    subst e1; subst e2; subst e3
    have : us = [] := by
      have := h.1
      simp at this
      exact this
    subst this
    exact RdI.nil
  · injection e0 with e1 e2 e3
    subst e1; subst e3
    refine ⟨⟨h.1, fun hn0 => ⟨g, 0, rfl, (Array.getElem?_eq_some_iff.1 hg).1, fun j u hu => ?_⟩⟩, hn, hm⟩
    have := h.cells (g := g) rfl j u hu
    rw [show (Addr.add ⟨g, 0, none⟩ j) = ⟨g, 0 + j, none⟩ from by unfold Addr.add; split <;> simp_all] at this
    exact this
/-- block g is just the cells cs of element type t, none frozen -/
def Blk (w : World) (g : Nat) (t : TypeId) (cs : Array Value) : Prop := w.heap[g]? = some (.cells cs t (0, 0))
section
variable {w w' : World} {g : Nat} {t : TypeId} {cs : Array Value}
theorem Blk.lt (h : Blk w g t cs) : g < w.heap.size := (Array.getElem?_eq_some_iff.1 h).1
theorem Blk.cell (h : Blk w g t cs) (i : Nat) : w.cell? ⟨g, i, none⟩ = cs[i]? := cell_of_row w g i cs t (0, 0) h
theorem Blk.frozen (h : Blk w g t cs) (i : Nat) : w.frozen? ⟨g, i, none⟩ = false := by
  unfold Blk at h
  simp [World.frozen?, h]
theorem Blk.set_ (h : Blk w g t cs) (i : Nat) (u : Value) : Blk (w.setCell ⟨g, i, none⟩ u) g t (cs.setIfInBounds i u) := by
  unfold Blk at h ⊢
  simp [World.setCell, Array.getElem?_modify, h]
theorem Blk.set3 {x0 x1 x2 : Value} (h : Blk w g t #[x0, x1, x2]) (y0 y1 y2 : Value) : Blk (((w.setCell ⟨g, 0, none⟩ y0).setCell ⟨g, 1, none⟩ y1).setCell ⟨g, 2, none⟩ y2) g t #[y0, y1, y2] :=
  ((h.set_ 0 y0).set_ 1 y1).set_ 2 y2
theorem Blk.below {B : Nat} (h : Blk w g t cs) (hb : Below B w w') (hg : g < B) : Blk w' g t cs := (hb.block g hg).trans h
theorem Blk.grown {row : Option Nat} (h : Blk w g t cs) (hb : w.grownBy w' row) (hg : some g ≠ row) : Blk w' g t cs := (hb.block g h.lt hg).trans h
end
theorem below_grown {w w1 : World} (h : Below w.heap.size w w1) : w.grownBy w1 none := ⟨h.os, h.tape, h.output, h.size, fun k hk _ => h.block k hk⟩
/-- clear of a slice whose elements are of several cells -/
theorem run_clear_cells {P : Program} (w : World) (t e ty : TypeId) (z : Value) (zs : Array Value) (ht : P.underlying t = some (.slice e)) (hv : ∀ w, (zeroValue e).run P w = .ok z w) (hz : z.cells = zs) (h1 : ∀ u ∈ zs, u.oneCell' = true) (hzn : 0 < zs.size) (b o n c : Nat) (hn : 0 < n)
    (hc : ∀ j, j < n * zs.size → (w.cell? ⟨b, o + j, none⟩).isSome = true) (hf : ∀ j, j < n * zs.size → w.frozen? ⟨b, o + j, none⟩ = false) :
    (Builtin.clear_ #[t] ty #[.slice (some ⟨b, o, none⟩) n c]).run P w = .ok (.tuple #[]) (w.setCells b o (Builtin.zeroCells zs n).toList) := by
  have hlen : (Builtin.zeroCells zs n).toList.length = n * zs.size := by rw [Array.length_toList, size_zeroCells]
  have hst := run_storeCells_cells (P := P) b o (Builtin.zeroCells zs n).toList 0 w (by rw [hlen]; simpa using hc) (by rw [hlen]; simpa using hf) (by
    intro v hv'
    rw [Array.mem_toList_iff] at hv'
    unfold Builtin.zeroCells at hv'
    rw [Array.mem_map] at hv'
    obtain ⟨i, _, rfl⟩ := hv'
    have hi : i % zs.size < zs.size := Nat.mod_lt _ hzn
    rw [getElem!_pos zs _ hi]
    exact h1 _ (Array.getElem_mem hi))
  simp only [Nat.add_zero] at hst
  obtain ⟨m, rfl⟩ : ∃ m, n = m + 1 := ⟨n - 1, by omega⟩
  simp [Builtin.clear_, run_underlying ht, hv, hz, hst]
theorem ownsRow_cut {w : World} {base : Nat} {e : TypeId} {size g n c i : Nat} {cs : List Value} (h : w.ownsRow base e size (.slice (some ⟨g, 0, none⟩) n c) n cs) (hi : i ≤ n) :
    w.ownsRow base e size (.slice (some ⟨g, 0, none⟩) i c) i (cs.take (i * size)) := by
  have hm : i * size ≤ n * size := Nat.mul_le_mul_right _ hi
  refine ⟨by rw [List.length_take, h.1]; omega, ?_⟩
  rcases h.2 with ⟨e0, _⟩ | ⟨g', cap, cur, e0, hb, hg, hn, hcm, hs, ht⟩
  · cases e0
  · refine .inr ⟨g', cap, cur, ?_, hb, hg, by omega, hcm, hs, ?_⟩
    · injection e0 with e1 e2 e3
      rw [e1, e3]
    · rw [← ht, List.take_take]
      congr 1
      omega
theorem ownsRow_setCells {base : Nat} {e : TypeId} {size g n c : Nat} : ∀ (vs : List Value) (cs : List Value) (o : Nat) (w : World), w.ownsRow base e size (.slice (some ⟨g, 0, none⟩) n c) n cs →
    ∃ cs', (w.setCells g o vs).ownsRow base e size (.slice (some ⟨g, 0, none⟩) n c) n cs' ∧ (∀ k, k < o → cs'[k]? = cs[k]?) ∧ w.grownBy (w.setCells g o vs) (some g)
  | [], cs, o, w, h => ⟨cs, h, fun _ _ => rfl, World.grownBy.refl w _⟩
  | v :: vs, cs, o, w, h => by
    obtain ⟨h1, h2⟩ := h.stored o v
    obtain ⟨cs', h3, h4, h5⟩ := ownsRow_setCells vs (cs.set o v) (o + 1) _ h1
    refine ⟨cs', h3, fun k hk => ?_, ?_⟩
    · rw [h4 k (by omega), List.getElem?_set_ne (by omega)]
    · exact ⟨h5.os.trans h2.os, h5.tape.trans h2.tape, h5.output.trans h2.output, Nat.le_trans h2.size h5.size, fun k hk hne => (h5.block k (Nat.lt_of_lt_of_le hk h2.size) hne).trans (h2.block k hk hne)⟩
/-- a slice of ints does not lie in a block that holds a term -/
theorem RdI.put3 {w : World} {B : Nat} {A : Option Addr} {n c : Nat} {us : List Int} {g : Nat} {t : TypeId} {x : Bool} {y : Int} {a : Option Addr} {m d : Nat}
    (h : RdI .i64 w B A n c us) (hs : Blk w g t #[.bool x, .int .u8 y, .slice a m d]) (v0 v1 v2 : Value) :
    RdI .i64 (((w.setCell ⟨g, 0, none⟩ v0).setCell ⟨g, 1, none⟩ v1).setCell ⟨g, 2, none⟩ v2) B A n c us := by
  refine ⟨⟨h.1.1, fun hn => ?_⟩, h.2⟩
  obtain ⟨b, off, e, hb, hc⟩ := h.1.2 hn
  have hne : b ≠ g := by
    rintro rfl
    have h0 : 0 < us.length := by rw [h.len]; exact hn
    have := hc 0 (.int .i64 us[0]) (by simp [h0])
    rw [hs.cell] at this
    generalize off + 0 = k at this
    match k, this with
    | 0, this => simp at this
    | 1, this => simp at this
    | 2, this => simp at this
    | k + 3, this => simp at this
  refine ⟨b, off, e, hb, fun j u hu => ?_⟩
  rw [World.cell?_setCell_other _ _ _ _ (fun e => hne (by injection e with e; exact e.symm)), World.cell?_setCell_other _ _ _ _ (fun e => hne (by injection e with e; exact e.symm)), World.cell?_setCell_other _ _ _ _ (fun e => hne (by injection e with e; exact e.symm))]
  exact hc j u hu
theorem set3_other (w : World) {b g : Nat} (o : Nat) (h : b ≠ g) (v0 v1 v2 : Value) : (((w.setCell ⟨g, 0, none⟩ v0).setCell ⟨g, 1, none⟩ v1).setCell ⟨g, 2, none⟩ v2).cell? ⟨b, o, none⟩ = w.cell? ⟨b, o, none⟩ := by
  rw [World.cell?_setCell_other _ _ _ _ (fun e => h (by injection e with e; exact e.symm)), World.cell?_setCell_other _ _ _ _ (fun e => h (by injection e with e; exact e.symm)), World.cell?_setCell_other _ _ _ _ (fun e => h (by injection e with e; exact e.symm))]
theorem below_box {w : World} (o : Obj) : Below w.heap.size w (w.alloc o) := (Below.refl _ _).alloc (Nat.le_refl _) _
theorem below_drewN_t {B : Nat} {a w : World} (h : Below B a w) (n : Nat) : Below B a (w.drewN n) := ⟨h.os, h.tape, h.output, h.size, h.block⟩
theorem Blk.other {w : World} {g g' : Nat} {t : TypeId} {cs : Array Value} (h : Blk w g t cs) (hg : g' ≠ g) (i : Nat) (u : Value) : Blk (w.setCell ⟨g', i, none⟩ u) g t cs := by
  unfold Blk at h ⊢
  simp [World.setCell, Array.getElem?_modify, h, hg]
theorem blk_new (w : World) (cs : Array Value) (t : TypeId) : Blk (w.alloc (Obj.cells cs t)) w.heap.size t cs := heap_alloc_new w _
theorem Blk.alloc {w : World} {g : Nat} {t : TypeId} {cs : Array Value} (h : Blk w g t cs) (o : Obj) : Blk (w.alloc o) g t cs := by
  show (w.alloc o).heap[g]? = _
  rw [Below.heap_alloc _ _ _ h.lt]
  exact h
theorem rd_new1 (w : World) (v : Value) (t : TypeId) : Rd (w.alloc (Obj.cells #[v] t)) (w.heap.size + 1) 1 (some ⟨w.heap.size, 0, none⟩) 1 [v] := by
  refine ⟨rfl, fun _ => ⟨w.heap.size, 0, rfl, Nat.lt_succ_self _, fun j u hu => ?_⟩⟩
  have h := (blk_new w #[v] t).cell (0 + j)
  rw [h, Nat.zero_add]
  match j, hu with
  | 0, hu => exact hu
theorem own_slice {w : World} {base : Nat} {e : TypeId} {v : Value} {n : Nat} {us : List Int} {x : Int} (h : w.ownsRow base e 1 v n (us.map (Value.int .i64) ++ [.int .i64 x])) : ∃ A c, v = .slice A n c ∧ RdI .i64 w w.heap.size A n c (us ++ [x]) := by
  have h' : w.ownsRow base e 1 v n ((us ++ [x]).map (Value.int .i64)) := by rw [List.map_append]; exact h
  obtain ⟨A, c, rfl⟩ : ∃ A c, v = .slice A n c := by
    rcases h.2 with ⟨e0, hn0⟩ | ⟨g, cap, cur, e0, _⟩
    · exact ⟨none, 0, by rw [e0, hn0]⟩
    · exact ⟨some ⟨g, 0, none⟩, cap, e0⟩
  exact ⟨A, c, rfl, RdI.of_own h'⟩

/-- the call returns a slice of ints of its own making, or one that came in -/
def RetI (k : IntKind) (us : List Int) (w : World) (e : Ending) (w' : World) : Prop :=
  ∃ A n c, e = .returned (.slice A n c) ∧ RdI k w' w'.heap.size A n c us ∧ Below w.heap.size w w'

theorem ownsRow_beyond {w w' : World} {base : Nat} {e : TypeId} {size : Nat} {v : Value} {n : Nat} {xs : List Value} (h : w.ownsRow base e size v n xs) (hb : Below w.heap.size w w') : w'.ownsRow base e size v n xs :=
  h.kept (row := none) ⟨hb.os, hb.tape, hb.output, hb.size, fun k hk _ => hb.block k hk⟩ (by
    cases hv : v.ownBlock
    · exact .inl rfl
    · exact .inr (by simp))
theorem ownsRow_form {w : World} {base : Nat} {e : TypeId} {size : Nat} {v : Value} {n : Nat} {xs : List Value} (h : w.ownsRow base e size v n xs) : ∃ A c, v = .slice A n c := by
  rcases h.2 with ⟨e0, hn0⟩ | ⟨g, cap, cur, e0, _⟩
  · exact ⟨none, 0, by rw [e0, hn0]⟩
  · exact ⟨some ⟨g, 0, none⟩, cap, e0⟩
section
variable {P : Program}
/-- append of one element, just laid, to a row of the call's own -/
theorem wpList_append_one {ops : Array Oper} {rest : List Oper} {o : Oper} {a : Act} {Q : Exit → Act → World → Prop} (w0 w : World) (hgd : o.guard = none) (s x : Operand) (t : TypeId)
    (ho : o.op = .call { callee := .builtin .append, args := #[s, x], argTypes := #[t, t] })
    (base : Nat) (e : TypeId) (i : TypeInfo) (z : Value) (size bytes : Nat) (ht : P.underlying t = some (.slice e)) (hi : P.info? e = some i) (hz : i.zero = some z)
    (hsize : i.size = size) (hby : i.bytes = bytes) (hzs : z.cells.size = size) (hsz : 0 < size)
    (v : Value) (n : Nat) (xs : List Value) (hs : a.eval s = v) (cs : List Value) (hcs : cs.length = size) (h1 : ∀ u ∈ cs, u.oneCell' = true) (hx : a.eval x = .slice (some ⟨w.heap.size, 0, none⟩) 1 1)
    (hown : w.ownsRow base e size v n xs) (h63 : n + 1 ≤ maxLen) (hbytes : (n + 1) * bytes ≤ 140737488355328) (hbel : Below base w0 w) (hbase : base ≤ w.heap.size)
    (h : ∀ A' c' w', w'.ownsRow base e size (.slice A' (n + 1) c') (n + 1) (xs ++ cs) → Below base w0 w' → w.grownBy w' v.ownBlock → w.heap.size ≤ w'.heap.size → wpList P ops Q rest (a.put o.dst (.slice A' (n + 1) c')) w') :
    wpList P ops Q (o :: rest) a (w.alloc (Obj.cells cs.toArray e)) := by
  have hrd : Rd (w.alloc (Obj.cells cs.toArray e)) (w.heap.size + 1) size (some ⟨w.heap.size, 0, none⟩) 1 cs :=
    ⟨by rw [hcs, Nat.one_mul], fun _ => ⟨w.heap.size, 0, rfl, Nat.lt_succ_self _, fun j u hu => by rw [Nat.zero_add, World.cell?_alloc_new]; simpa using hu⟩⟩
  refine wpList_append_rd (w.alloc (Obj.cells cs.toArray e)) hgd s x t ho base e i z size bytes ht hi hz hsize hby hzs hsz v n xs hs (hown.alloc _) (w.heap.size + 1) _ 1 1 cs hx hrd h1 h63 hbytes (by rw [World.size_alloc]; omega) fun v' w' h2 h3 h4 => ?_
  obtain ⟨A', c', rfl⟩ := ownsRow_form h2
  have hg : w.grownBy w' v.ownBlock := ⟨h3.os, h3.tape, h3.output, Nat.le_trans (by rw [World.size_alloc]; omega) h3.size, fun k hk hne => (h3.block k (by rw [World.size_alloc]; omega) hne).trans (Below.heap_alloc w _ k hk)⟩
  exact h A' c' w' h2 ((hbel.alloc hbase _).grown h3 (by rw [World.size_alloc]; omega) (fun k hk => (hown.lt _ hk).1)) hg hg.size
end

end Go.Proofs.Ythabkpkgocafoaa
