/- A term in a block of its own: what becomes of it. -/
import Derived.Test.YtimlbpjdgnapoaaM1
namespace Go.Proofs.Ytimlbpjdgnapoaa
set_option linter.unusedVariables false
set_option linter.unusedSimpArgs false
open Go.RowKit

/-- block g is a variable that holds the term t -/
def BoxT (w : World) (g : Nat) (t : TermD) : Prop := ∃ A n c, Blk w g 37 #[.bool t.never, .int .u8 t.c, .slice A n c] ∧ RdI .i64 w w.heap.size A n c t.vars
/-- a store of three cells -/
abbrev st3 (w : World) (g : Nat) (v0 v1 v2 : Value) : World := ((w.setCell ⟨g, 0, none⟩ v0).setCell ⟨g, 1, none⟩ v1).setCell ⟨g, 2, none⟩ v2
theorem st3_size (w : World) (g : Nat) (v0 v1 v2 : Value) : (st3 w g v0 v1 v2).heap.size = w.heap.size := by simp [st3]
section
variable {w w' : World} {g g' : Nat} {t t' u : TermD}
theorem BoxT.lt (h : BoxT w g t) : g < w.heap.size := by obtain ⟨A, n, c, h1, h2⟩ := h; exact h1.lt
theorem BoxT.below (h : BoxT w g t) (hb : Below w.heap.size w w') : BoxT w' g t := by
  obtain ⟨A, n, c, h1, h2⟩ := h
  exact ⟨A, n, c, h1.below hb h1.lt, (h2.below hb).more hb.size⟩
theorem BoxT.alloc (h : BoxT w g t) (o : Obj) : BoxT (w.alloc o) g t := h.below ((Below.refl _ _).alloc (Nat.le_refl _) _)
theorem BoxT.drew (h : BoxT w g t) : BoxT w.drew g t := h
theorem BoxT.drewN (h : BoxT w g t) (k : Nat) : BoxT (w.drewN k) g t := h
theorem RdI.fresh {k : IntKind} {B : Nat} {A : Option Addr} {n c : Nat} {us : List Int} (h : RdI k w B A n c us) (hb : Below w.heap.size w w') (hB : B ≤ w.heap.size) : RdI k w' w'.heap.size A n c us := ((h.more hB).below hb).more hb.size
theorem BoxT.new {A : Option Addr} {n c : Nat} (t : TermD) (h : RdI .i64 w w.heap.size A n c t.vars) : BoxT (w.alloc (Obj.cells #[.bool t.never, .int .u8 t.c, .slice A n c] 37)) w.heap.size t :=
  ⟨A, n, c, blk_new _ _ _, h.fresh ((Below.refl _ _).alloc (Nat.le_refl _) _) (Nat.le_refl _)⟩
theorem RdI.box {A : Option Addr} {n c : Nat} {us : List Int} (h : RdI .i64 w w.heap.size A n c us) (h' : BoxT w g' t') (v0 v1 v2 : Value) : RdI .i64 (st3 w g' v0 v1 v2) (st3 w g' v0 v1 v2).heap.size A n c us := by
  obtain ⟨A', n', c', h1, h2⟩ := h'
  exact (h.put3 h1 v0 v1 v2).more (by rw [st3_size]; exact Nat.le_refl _)
theorem BoxT.store (h : BoxT w g t) {A : Option Addr} {n c : Nat} (hr : RdI .i64 w w.heap.size A n c u.vars) : BoxT (st3 w g (.bool u.never) (.int .u8 u.c) (.slice A n c)) g u := by
  have hr' := hr.box h (.bool u.never) (.int .u8 u.c) (.slice A n c)
  obtain ⟨A', n', c', h1, h2⟩ := h
  exact ⟨A, n, c, h1.set3 _ _ _, hr'⟩
theorem BoxT.far (h : BoxT w g t) (h' : BoxT w g' t') (hne : g ≠ g') (v0 v1 v2 : Value) : BoxT (st3 w g' v0 v1 v2) g t := by
  obtain ⟨A, n, c, h1, h2⟩ := h
  exact ⟨A, n, c, ((h1.other hne.symm 0 v0).other hne.symm 1 v1).other hne.symm 2 v2, h2.box h' v0 v1 v2⟩
theorem below_st3 {B : Nat} {w0 : World} (h : Below B w0 w) (hg : B ≤ g) (v0 v1 v2 : Value) : Below B w0 (st3 w g v0 v1 v2) :=
  ((h.setCell (p := ⟨g, 0, none⟩) hg v0).setCell (p := ⟨g, 1, none⟩) hg v1).setCell (p := ⟨g, 2, none⟩) hg v2
theorem BoxT.val (h : BoxT w g t) : ∃ A n c, w.cell? ⟨g, 0, none⟩ = some (.bool t.never) ∧ w.cell? ⟨g, 1, none⟩ = some (.int .u8 t.c) ∧ w.cell? ⟨g, 2, none⟩ = some (.slice A n c) ∧
    w.frozen? ⟨g, 0, none⟩ = false ∧ w.frozen? ⟨g, 1, none⟩ = false ∧ w.frozen? ⟨g, 2, none⟩ = false ∧ RdI .i64 w w.heap.size A n c t.vars := by
  obtain ⟨A, n, c, h1, h2⟩ := h
  exact ⟨A, n, c, h1.cell 0, h1.cell 1, h1.cell 2, h1.frozen 0, h1.frozen 1, h1.frozen 2, h2⟩
end

end Go.Proofs.Ytimlbpjdgnapoaa
