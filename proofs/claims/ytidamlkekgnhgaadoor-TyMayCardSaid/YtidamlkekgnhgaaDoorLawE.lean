/- Contracts over types, each with its answer named; two types in boxes of their own. -/
import Derived.Test.YtidamlkekgnhgaaDoorLawD
import Derived.Lib.QuietBelow
namespace Go.Proofs.YtidamlkekgnhgaaDoor
set_option linter.unusedVariables false
set_option linter.unusedSimpArgs false
open Go.RowKit

section
variable {t a b : TyD} {s x : Int} {r : Bool}
theorem refSize_at (hs : sizeW t = s) (A : Option Addr) (m cp : Nat) (w : World) (h : TysV w w.heap.size A m cp t.l) :
    Calls Tryd.prog 18 #[.agg #[.int .u8 t.k, .int .i64 t.n, .int .i64 t.v, .int .u8 t.c, .slice A m cp]] w fun e w' => e = .returned (.int .i64 s) ∧ Below w.heap.size w w' := by
  subst hs
  exact refSize_any t _ w ⟨A, m, cp, rfl, h⟩
theorem tyMay_at (hs : mayTE t = x) (A : Option Addr) (m cp : Nat) (w : World) (h : TysV w w.heap.size A m cp t.l) :
    Calls Tryd.prog 19 #[.agg #[.int .u8 t.k, .int .i64 t.n, .int .i64 t.v, .int .u8 t.c, .slice A m cp]] w fun e w' => e = .returned (.int .i64 x) ∧ Below w.heap.size w w' := by
  subst hs
  exact tyMay_any t _ w ⟨A, m, cp, rfl, h⟩
theorem refTyMay_at (hs : mayTE t = x) (A : Option Addr) (m cp : Nat) (w : World) (h : TysV w w.heap.size A m cp t.l) :
    Calls Tryd.prog 20 #[.agg #[.int .u8 t.k, .int .i64 t.n, .int .i64 t.v, .int .u8 t.c, .slice A m cp]] w fun e w' => e = .returned (.int .i64 x) ∧ Below w.heap.size w w' := by
  subst hs
  exact refTyMay_any t _ w ⟨A, m, cp, rfl, h⟩
theorem same_at (hs : sameT a b = r) (A : Option Addr) (m cp : Nat) (A' : Option Addr) (m' cp' : Nat) (w : World) (h : TysV w w.heap.size A m cp a.l) (h' : TysV w w.heap.size A' m' cp' b.l) :
    Calls Tryd.prog 21 #[.agg #[.int .u8 a.k, .int .i64 a.n, .int .i64 a.v, .int .u8 a.c, .slice A m cp], .agg #[.int .u8 b.k, .int .i64 b.n, .int .i64 b.v, .int .u8 b.c, .slice A' m' cp']] w fun e w' => e = .returned (.bool r) ∧ Below w.heap.size w w' := by
  subst hs
  exact same_go _ a b (Nat.le_refl _) A m cp A' m' cp' w h h'
theorem refSame_at (hs : sameT a b = r) (A : Option Addr) (m cp : Nat) (A' : Option Addr) (m' cp' : Nat) (w : World) (h : TysV w w.heap.size A m cp a.l) (h' : TysV w w.heap.size A' m' cp' b.l) :
    Calls Tryd.prog 22 #[.agg #[.int .u8 a.k, .int .i64 a.n, .int .i64 a.v, .int .u8 a.c, .slice A m cp], .agg #[.int .u8 b.k, .int .i64 b.n, .int .i64 b.v, .int .u8 b.c, .slice A' m' cp']] w fun e w' => e = .returned (.bool r) ∧ Below w.heap.size w w' := by
  subst hs
  exact refSame_go _ a b (Nat.le_refl _) A m cp A' m' cp' w h h'
theorem great_at {l : List TyD} (hs : greatB l = r) (A : Option Addr) (m cp : Nat) (w : World) (hl : TysV w w.heap.size A m cp l) :
    Calls Tryd.prog 16 #[.slice A m cp] w fun e w' => e = .returned (.bool r) ∧ Below w.heap.size w w' := by
  subst hs
  exact great_any l A m cp w hl
end
theorem TysV.fresh {w w' : World} {A : Option Addr} {m cp : Nat} {l : List TyD} (h : TysV w w.heap.size A m cp l) (hb : Below w.heap.size w w') : TysV w' w'.heap.size A m cp l := (h.below hb).more hb.size
theorem TysV.regrown {w : World} {A : Option Addr} {m cp : Nat} {l : List TyD} (h : TysV w w.heap.size A m cp l) (d : Nat) (os : Array Obj) : TysV (Sort.grow (redrawn w d) os) (Sort.grow (redrawn w d) os).heap.size A m cp l := h.fresh (below_regrown w d os)
theorem Tab.regrown {w : World} (h : Tab w) (d : Nat) (os : Array Obj) : Tab (Sort.grow (redrawn w d) os) := h.below (below_regrown w d os)
/-- two types, each in a block, and both in a row -/
structure Two (a b : TyD) (A : Option Addr) (m cp : Nat) (A' : Option Addr) (m' cp' : Nat) (w W : World) : Prop where
  eq : ((w.alloc (Obj.cells #[.int .u8 a.k, .int .i64 a.n, .int .i64 a.v, .int .u8 a.c, .slice A m cp] 27)).alloc (Obj.cells #[.int .u8 b.k, .int .i64 b.n, .int .i64 b.v, .int .u8 b.c, .slice A' m' cp'] 27)).alloc (Obj.cells #[.int .u8 a.k, .int .i64 a.n, .int .i64 a.v, .int .u8 a.c, .slice A m cp, .int .u8 b.k, .int .i64 b.n, .int .i64 b.v, .int .u8 b.c, .slice A' m' cp'] 27) = W
  bel : Below w.heap.size w W
  size : W.heap.size = w.heap.size + 1 + 1 + 1
  ba : Blk W w.heap.size 27 #[.int .u8 a.k, .int .i64 a.n, .int .i64 a.v, .int .u8 a.c, .slice A m cp]
  bb : Blk W (w.heap.size + 1) 27 #[.int .u8 b.k, .int .i64 b.n, .int .i64 b.v, .int .u8 b.c, .slice A' m' cp']
  ta : TysV W W.heap.size A m cp a.l
  tb : TysV W W.heap.size A' m' cp' b.l
  row : TysV W W.heap.size (some ⟨w.heap.size + 1 + 1, 0, none⟩) 2 2 [a, b]
theorem two_new (a b : TyD) (A : Option Addr) (m cp : Nat) (A' : Option Addr) (m' cp' : Nat) (w : World) (h : TysV w w.heap.size A m cp a.l) (h' : TysV w w.heap.size A' m' cp' b.l) : ∃ W, Two a b A m cp A' m' cp' w W := by
  obtain ⟨w1, hw1⟩ : ∃ W, w.alloc (Obj.cells #[.int .u8 a.k, .int .i64 a.n, .int .i64 a.v, .int .u8 a.c, .slice A m cp] 27) = W := ⟨_, rfl⟩
  have hb1 := below_box (w := w) (Obj.cells #[.int .u8 a.k, .int .i64 a.n, .int .i64 a.v, .int .u8 a.c, .slice A m cp] 27)
  have hn1 := blk_new w #[.int .u8 a.k, .int .i64 a.n, .int .i64 a.v, .int .u8 a.c, .slice A m cp] 27
  have hs1 : w1.heap.size = w.heap.size + 1 := by rw [← hw1]; simp
  obtain ⟨w2, hw2⟩ : ∃ W, w1.alloc (Obj.cells #[.int .u8 b.k, .int .i64 b.n, .int .i64 b.v, .int .u8 b.c, .slice A' m' cp'] 27) = W := ⟨_, rfl⟩
  have hb2 := below_box (w := w1) (Obj.cells #[.int .u8 b.k, .int .i64 b.n, .int .i64 b.v, .int .u8 b.c, .slice A' m' cp'] 27)
  have hn2 := blk_new w1 #[.int .u8 b.k, .int .i64 b.n, .int .i64 b.v, .int .u8 b.c, .slice A' m' cp'] 27
  have hs2 : w2.heap.size = w.heap.size + 1 + 1 := by rw [← hw2]; simp [hs1]
  obtain ⟨W, hW⟩ : ∃ W, w2.alloc (Obj.cells #[.int .u8 a.k, .int .i64 a.n, .int .i64 a.v, .int .u8 a.c, .slice A m cp, .int .u8 b.k, .int .i64 b.n, .int .i64 b.v, .int .u8 b.c, .slice A' m' cp'] 27) = W := ⟨_, rfl⟩
  have hb3 := below_box (w := w2) (Obj.cells #[.int .u8 a.k, .int .i64 a.n, .int .i64 a.v, .int .u8 a.c, .slice A m cp, .int .u8 b.k, .int .i64 b.n, .int .i64 b.v, .int .u8 b.c, .slice A' m' cp'] 27)
  have hn3 := blk_new w2 #[.int .u8 a.k, .int .i64 a.n, .int .i64 a.v, .int .u8 a.c, .slice A m cp, .int .u8 b.k, .int .i64 b.n, .int .i64 b.v, .int .u8 b.c, .slice A' m' cp'] 27
  have hs3 : W.heap.size = w.heap.size + 1 + 1 + 1 := by rw [← hW]; simp [hs2]
  rw [hw1] at hb1 hn1
  rw [hw2] at hb2 hn2
  rw [hW] at hb3 hn3
  rw [hs1] at hn2
  rw [hs2] at hn3
  have hb := (hb1.trans (hb2.mono hb1.size)).trans (hb3.mono (by omega))
  exact ⟨W, by rw [hw1, hw2, hW], hb, hs3, (hn1.below hb2 (by omega)).below hb3 (by omega), hn2.below hb3 (by omega), h.fresh hb, h'.fresh hb, ty2_new hn3 (by omega) (h.fresh hb) (h'.fresh hb)⟩
end Go.Proofs.YtidamlkekgnhgaaDoor
