/- The contract of ty.Text; the law package's types: V, Fun, Data, Of, names. -/
import Derived.Test.YtidamlkekgnhgaaDoorTyY
namespace Go.Proofs.YtidamlkekgnhgaaDoor
set_option linter.unusedVariables false
set_option linter.unusedSimpArgs false
open Go.RowKit

/-- the call returns the type u -/
def RetTy (u : TyD) (w : World) (e : Ending) (w' : World) : Prop :=
  ∃ A m cp, e = .returned (.agg #[.int .u8 u.k, .int .i64 u.n, .int .i64 u.v, .int .u8 u.c, .slice A m cp]) ∧ TysV w' w'.heap.size A m cp u.l ∧ Below w.heap.size w w'

def RetT5 (k n v c : Int) (l : List TyD) (w : World) (e : Ending) (w' : World) : Prop :=
  ∃ A m cp, e = .returned (.agg #[.int .u8 k, .int .i64 n, .int .i64 v, .int .u8 c, .slice A m cp]) ∧ TysV w' w'.heap.size A m cp l ∧ Below w.heap.size w w'

set_option maxRecDepth 100000 in
set_option maxHeartbeats 1000000 in
theorem tyText_any (t : TyD) (hm : mayT t = true) (ws : List ByteArray) (A : Option Addr) (m cp : Nat) (An : Option Addr) (nn cn : Nat) (w : World) (hl : TysV w w.heap.size A m cp t.l) (hn : NmV w w.heap.size An nn cn ws) (ht : Tab w) (hsz : (txB ws t).length ≤ 140737488355328) :
    Calls Tryd.prog 11 #[.agg #[.int .u8 t.k, .int .i64 t.n, .int .i64 t.v, .int .u8 t.c, .slice A m cp], .slice An nn cn] w fun e w' => e = .returned (.string ⟨(txB ws t).toArray⟩) ∧ Below w.heap.size w w' := by
  have hb1 := below_box (w := w) (Obj.cells #[.int .u8 t.k, .int .i64 t.n, .int .i64 t.v, .int .u8 t.c, .slice A m cp] 27)
  have hz := blk_new w #[.int .u8 t.k, .int .i64 t.n, .int .i64 t.v, .int .u8 t.c, .slice A m cp] 27
  have hl1 := (hl.below hb1).more hb1.size
  have hn1 := (hn.below hb1).more hb1.size
  have ht1 := ht.below hb1
  obtain ⟨w1, hw1⟩ : ∃ w1, w.alloc (Obj.cells #[.int .u8 t.k, .int .i64 t.n, .int .i64 t.v, .int .u8 t.c, .slice A m cp] 27) = w1 := ⟨_, rfl⟩
  have hs1 : w1.heap.size = w.heap.size + 1 := by rw [← hw1]; simp
  rw [hw1] at hb1 hz hl1 hn1 ht1
  have hb2 := below_box (w := w1) (Obj.cells #[.pointer none, .slice none 0 0, .slice An nn cn] 74)
  have hwr : WrAt w1.heap.size w1.heap.size (.pointer none) (.slice An nn cn) [] (w1.alloc (Obj.cells #[.pointer none, .slice none 0 0, .slice An nn cn] 74)) := by
    exact ⟨Nat.le_refl _, .slice none 0 0, blk_new w1 #[.pointer none, .slice none 0 0, .slice An nn cn] 74, World.ownsRow_nil _ _ _ _, by simp [Value.ownBlock], fun _ => rfl⟩
  have hz2 := hz.below hb2 hz.lt
  have hput := put_go ht1 An nn cn rfl hn1 t hm A m cp hl1 _ [] hb2 (.inl hwr) (by simpa using hsz)
  rw [hs1] at hput
  have Hput := Lib.hid hput
  have Hs1 := Lib.hid hs1
  have HW1 := Lib.hid hw1
  have Hb1 := Lib.hid hb1
  have Hb2 := Lib.hid hb2
  have z0 := hz2.cell 0
  have z1 := hz2.cell 1
  have z2 := hz2.cell 2
  have z3 := hz2.cell 3
  have z4 := hz2.cell 4
  clear hput hw1 hs1 hb1 hb2 hz hz2 hl1 hn1 ht1 hwr hl hn ht
  go_enter Tryd.func11, Tryd.ntmps11
  go_wp2_with fail
  rw [HW1.out]
  refine Hput.out.mono ?_
  rintro e w2 ⟨rfl, h2⟩
  have hs := string_any (w.heap.size + 1) (w.heap.size + 1) _ _ (txB ws t) w2 h2.1
  have Hs := Lib.hid hs
  have H2 := Lib.hid h2
  clear hs h2
  go_wp2_with fail
  refine Hs.out.mono ?_
  rintro e w3 ⟨rfl, hb3⟩
  go_wp2_with fail
  go_ret
  have hb2 := Hb2.out
  rw [Hs1.out] at hb2
  exact ⟨rfl, Hb1.out.trans ((hb2.trans (H2.out.2.1.trans hb3)).mono (by omega))⟩

/-- a type laid anew, and returned -/
theorem ty1_new {W : World} {B g : Nat} {t : TypeId} {a : TyD} {A : Option Addr} {m cp : Nat} (h : Blk W g t #[.int .u8 a.k, .int .i64 a.n, .int .i64 a.v, .int .u8 a.c, .slice A m cp]) (hg : g < B) (ha : TysV W B A m cp a.l) : TysV W B (some ⟨g, 0, none⟩) 1 1 [a] :=
  ⟨rfl, Nat.le_refl _, by unfold maxLen; omega, fun _ => ⟨g, 0, rfl, hg, TyRow.of fun i hi => by
    match i, hi with
    | 0, _ => exact tyAt_iff.2 ⟨h.cell 0, h.cell 1, h.cell 2, h.cell 3, A, m, cp, h.cell 4, ha⟩⟩⟩
theorem ty2_new {W : World} {B g : Nat} {t : TypeId} {a b : TyD} {A A' : Option Addr} {m cp m' cp' : Nat} (h : Blk W g t #[.int .u8 a.k, .int .i64 a.n, .int .i64 a.v, .int .u8 a.c, .slice A m cp, .int .u8 b.k, .int .i64 b.n, .int .i64 b.v, .int .u8 b.c, .slice A' m' cp']) (hg : g < B) (ha : TysV W B A m cp a.l) (hb : TysV W B A' m' cp' b.l) : TysV W B (some ⟨g, 0, none⟩) 2 2 [a, b] :=
  ⟨rfl, Nat.le_refl _, by unfold maxLen; omega, fun _ => ⟨g, 0, rfl, hg, TyRow.of fun i hi => by
    match i, hi with
    | 0, _ => exact tyAt_iff.2 ⟨h.cell 0, h.cell 1, h.cell 2, h.cell 3, A, m, cp, h.cell 4, ha⟩
    | 1, _ => exact tyAt_iff.2 ⟨h.cell 5, h.cell 6, h.cell 7, h.cell 8, A', m', cp', h.cell 9, hb⟩⟩⟩
theorem lawV_any (n : Int) (w : World) : Calls Tryd.prog 9 #[.int .i64 n] w (RetT5 1 n 0 0 [] w) := by
  have hblk := blk_new w #[.int .u8 1, .int .i64 n, .int .i64 0, .int .u8 0, .slice none 0 0] 27
  have hb := below_box (w := w) (Obj.cells #[.int .u8 1, .int .i64 n, .int .i64 0, .int .u8 0, .slice none 0 0] 27)
  go_enter Tryd.func9, Tryd.ntmps9
  go_wp2_with fail
  generalize w.alloc (Obj.cells #[.int .u8 1, .int .i64 n, .int .i64 0, .int .u8 0, .slice none 0 0] 27) = W at hblk hb ⊢
  have q0 : W.cell? ⟨w.heap.size, 0, none⟩ = some (.int .u8 1) := hblk.cell 0
  have q1 : W.cell? ⟨w.heap.size, 1, none⟩ = some (.int .i64 n) := hblk.cell 1
  have q2 : W.cell? ⟨w.heap.size, 2, none⟩ = some (.int .i64 0) := hblk.cell 2
  have q3 : W.cell? ⟨w.heap.size, 3, none⟩ = some (.int .u8 0) := hblk.cell 3
  have q4 : W.cell? ⟨w.heap.size, 4, none⟩ = some (.slice none 0 0) := hblk.cell 4
  exact bodyPost_ret (v := .agg #[.int .u8 1, .int .i64 n, .int .i64 0, .int .u8 0, .slice none 0 0]) (by simp [results, Tryd.results9, go_sem, q0, q1, q2, q3, q4]) rfl ⟨_, _, _, rfl, TysV.nil, hb⟩
theorem lawOf_any (k : Int) (l : List TyD) (A : Option Addr) (m cp : Nat) (w : World) (hl : TysV w w.heap.size A m cp l) : Calls Tryd.prog 13 #[.int .u8 k, .slice A m cp] w (RetT5 k 0 0 0 l w) := by
  have hblk := blk_new w #[.int .u8 k, .int .i64 0, .int .i64 0, .int .u8 0, .slice A m cp] 27
  have hb := below_box (w := w) (Obj.cells #[.int .u8 k, .int .i64 0, .int .i64 0, .int .u8 0, .slice A m cp] 27)
  have hl1 := (hl.below hb).more hb.size
  clear hl
  go_enter Tryd.func13, Tryd.ntmps13
  go_wp2_with fail
  generalize w.alloc (Obj.cells #[.int .u8 k, .int .i64 0, .int .i64 0, .int .u8 0, .slice A m cp] 27) = W at hblk hb hl1 ⊢
  have q0 : W.cell? ⟨w.heap.size, 0, none⟩ = some (.int .u8 k) := hblk.cell 0
  have q1 : W.cell? ⟨w.heap.size, 1, none⟩ = some (.int .i64 0) := hblk.cell 1
  have q2 : W.cell? ⟨w.heap.size, 2, none⟩ = some (.int .i64 0) := hblk.cell 2
  have q3 : W.cell? ⟨w.heap.size, 3, none⟩ = some (.int .u8 0) := hblk.cell 3
  have q4 : W.cell? ⟨w.heap.size, 4, none⟩ = some (.slice A m cp) := hblk.cell 4
  exact bodyPost_ret (v := .agg #[.int .u8 k, .int .i64 0, .int .i64 0, .int .u8 0, .slice A m cp]) (by simp [results, Tryd.results13, go_sem, q0, q1, q2, q3, q4]) rfl ⟨_, _, _, rfl, hl1, hb⟩
theorem lawData_any (n : Int) (l : List TyD) (A : Option Addr) (m cp : Nat) (w : World) (hl : TysV w w.heap.size A m cp l) : Calls Tryd.prog 15 #[.int .i64 n, .slice A m cp] w (RetT5 8 n 0 0 l w) := by
  have hblk := blk_new w #[.int .u8 8, .int .i64 n, .int .i64 0, .int .u8 0, .slice A m cp] 27
  have hb := below_box (w := w) (Obj.cells #[.int .u8 8, .int .i64 n, .int .i64 0, .int .u8 0, .slice A m cp] 27)
  have hl1 := (hl.below hb).more hb.size
  clear hl
  go_enter Tryd.func15, Tryd.ntmps15
  go_wp2_with fail
  generalize w.alloc (Obj.cells #[.int .u8 8, .int .i64 n, .int .i64 0, .int .u8 0, .slice A m cp] 27) = W at hblk hb hl1 ⊢
  have q0 : W.cell? ⟨w.heap.size, 0, none⟩ = some (.int .u8 8) := hblk.cell 0
  have q1 : W.cell? ⟨w.heap.size, 1, none⟩ = some (.int .i64 n) := hblk.cell 1
  have q2 : W.cell? ⟨w.heap.size, 2, none⟩ = some (.int .i64 0) := hblk.cell 2
  have q3 : W.cell? ⟨w.heap.size, 3, none⟩ = some (.int .u8 0) := hblk.cell 3
  have q4 : W.cell? ⟨w.heap.size, 4, none⟩ = some (.slice A m cp) := hblk.cell 4
  exact bodyPost_ret (v := .agg #[.int .u8 8, .int .i64 n, .int .i64 0, .int .u8 0, .slice A m cp]) (by simp [results, Tryd.results15, go_sem, q0, q1, q2, q3, q4]) rfl ⟨_, _, _, rfl, hl1, hb⟩
set_option maxHeartbeats 1000000 in
theorem lawFun_any (a b : TyD) (v c : Int) (A : Option Addr) (m cp : Nat) (A' : Option Addr) (m' cp' : Nat) (w : World) (hl : TysV w w.heap.size A m cp a.l) (hl' : TysV w w.heap.size A' m' cp' b.l) :
    Calls Tryd.prog 12 #[.agg #[.int .u8 a.k, .int .i64 a.n, .int .i64 a.v, .int .u8 a.c, .slice A m cp], .agg #[.int .i64 v, .int .u8 c], .agg #[.int .u8 b.k, .int .i64 b.n, .int .i64 b.v, .int .u8 b.c, .slice A' m' cp']] w (RetT5 7 0 v c [a, b] w) := by
  obtain ⟨w1, hw1⟩ : ∃ W, w.alloc (Obj.cells #[.int .u8 a.k, .int .i64 a.n, .int .i64 a.v, .int .u8 a.c, .slice A m cp] 27) = W := ⟨_, rfl⟩
  have hb1 := below_box (w := w) (Obj.cells #[.int .u8 a.k, .int .i64 a.n, .int .i64 a.v, .int .u8 a.c, .slice A m cp] 27)
  have hs1 : w1.heap.size = w.heap.size + 1 := by rw [← hw1]; simp
  obtain ⟨w2, hw2⟩ : ∃ W, w1.alloc (Obj.cells #[.int .i64 v, .int .u8 c] 24) = W := ⟨_, rfl⟩
  have hb2 := below_box (w := w1) (Obj.cells #[.int .i64 v, .int .u8 c] 24)
  have hs2 : w2.heap.size = w.heap.size + 1 + 1 := by rw [← hw2]; simp [hs1]
  obtain ⟨w3, hw3⟩ : ∃ W, w2.alloc (Obj.cells #[.int .u8 b.k, .int .i64 b.n, .int .i64 b.v, .int .u8 b.c, .slice A' m' cp'] 27) = W := ⟨_, rfl⟩
  have hb3 := below_box (w := w2) (Obj.cells #[.int .u8 b.k, .int .i64 b.n, .int .i64 b.v, .int .u8 b.c, .slice A' m' cp'] 27)
  have hs3 : w3.heap.size = w.heap.size + 1 + 1 + 1 := by rw [← hw3]; simp [hs2]
  obtain ⟨w4, hw4⟩ : ∃ W, w3.alloc (Obj.cells #[.int .u8 7, .int .i64 0, .int .i64 v, .int .u8 c, .slice (some ⟨w.heap.size + 1 + 1 + 1 + 1, 0, none⟩) 2 2] 27) = W := ⟨_, rfl⟩
  have hb4 := below_box (w := w3) (Obj.cells #[.int .u8 7, .int .i64 0, .int .i64 v, .int .u8 c, .slice (some ⟨w.heap.size + 1 + 1 + 1 + 1, 0, none⟩) 2 2] 27)
  have hs4 : w4.heap.size = w.heap.size + 1 + 1 + 1 + 1 := by rw [← hw4]; simp [hs3]
  have hblk4 := blk_new w3 #[.int .u8 7, .int .i64 0, .int .i64 v, .int .u8 c, .slice (some ⟨w.heap.size + 1 + 1 + 1 + 1, 0, none⟩) 2 2] 27
  obtain ⟨W, hW⟩ : ∃ W, w4.alloc (Obj.cells #[.int .u8 a.k, .int .i64 a.n, .int .i64 a.v, .int .u8 a.c, .slice A m cp, .int .u8 b.k, .int .i64 b.n, .int .i64 b.v, .int .u8 b.c, .slice A' m' cp'] 27) = W := ⟨_, rfl⟩
  have hb5 := below_box (w := w4) (Obj.cells #[.int .u8 a.k, .int .i64 a.n, .int .i64 a.v, .int .u8 a.c, .slice A m cp, .int .u8 b.k, .int .i64 b.n, .int .i64 b.v, .int .u8 b.c, .slice A' m' cp'] 27)
  have hn5 := blk_new w4 #[.int .u8 a.k, .int .i64 a.n, .int .i64 a.v, .int .u8 a.c, .slice A m cp, .int .u8 b.k, .int .i64 b.n, .int .i64 b.v, .int .u8 b.c, .slice A' m' cp'] 27
  rw [hw1] at hb1
  rw [hw2] at hb2
  rw [hw3] at hb3
  rw [hw4] at hb4 hblk4
  rw [hW] at hb5 hn5
  rw [hs3] at hblk4
  rw [hs4] at hn5
  have hb := (((hb1.trans (hb2.mono hb1.size)).trans (hb3.mono (by omega))).trans (hb4.mono (by omega))).trans (hb5.mono (by omega))
  have hblk := hblk4.below hb5 (by omega)
  have hsW := hb5.size
  have hlW := (hl.below hb).more hb.size
  have hlW' := (hl'.below hb).more hb.size
  have hrow := ty2_new hn5 (by have := hn5.lt; exact this) hlW hlW'
  have H1 := Lib.hid hw1
  have H2 := Lib.hid hw2
  have H3 := Lib.hid hw3
  have H4 := Lib.hid hw4
  have HW := Lib.hid hW
  have Hrow := Lib.hid hrow
  have Hb := Lib.hid hb
  have Hblk := Lib.hid hblk
  clear hw1 hw2 hw3 hw4 hW hb1 hb2 hb3 hb4 hb5 hs1 hs2 hs3 hs4 hblk4 hn5 hblk hb hlW hlW' hrow hsW hl hl'
  go_enter Tryd.func12, Tryd.ntmps12
  go_wp2_with fail
  rw [H1.out, H2.out, H3.out, H4.out, HW.out]
  have hblk := Hblk.out
  have q0 : W.cell? ⟨w.heap.size + 1 + 1 + 1, 0, none⟩ = some (.int .u8 7) := hblk.cell 0
  have q1 : W.cell? ⟨w.heap.size + 1 + 1 + 1, 1, none⟩ = some (.int .i64 0) := hblk.cell 1
  have q2 : W.cell? ⟨w.heap.size + 1 + 1 + 1, 2, none⟩ = some (.int .i64 v) := hblk.cell 2
  have q3 : W.cell? ⟨w.heap.size + 1 + 1 + 1, 3, none⟩ = some (.int .u8 c) := hblk.cell 3
  have q4 : W.cell? ⟨w.heap.size + 1 + 1 + 1, 4, none⟩ = some (.slice (some ⟨w.heap.size + 1 + 1 + 1 + 1, 0, none⟩) 2 2) := hblk.cell 4
  exact bodyPost_ret (v := .agg #[.int .u8 7, .int .i64 0, .int .i64 v, .int .u8 c, .slice (some ⟨w.heap.size + 1 + 1 + 1 + 1, 0, none⟩) 2 2]) (by simp [results, Tryd.results12, go_sem, q0, q1, q2, q3, q4]) rfl ⟨_, _, _, rfl, Hrow.out, Hb.out⟩
theorem names_any (w : World) : Calls Tryd.prog 14 #[] w fun e w' => ∃ A n c, e = .returned (.slice A n c) ∧ NmV w' w'.heap.size A n c ws2 ∧ Below w.heap.size w w' := by
  have hn := NmV.new w ws2 9 (by unfold maxLen; decide)
  have hb := below_box (w := w) (Obj.cells (ws2.map Value.string).toArray 9)
  have e : (ws2.map Value.string).toArray = #[.string ⟨#[66, 111, 111, 108]⟩, .string ⟨#[76, 105, 115, 116]⟩] := rfl
  rw [e] at hn hb
  have Hn := Lib.hid hn
  have Hb := Lib.hid hb
  clear hn hb e
  go_enter Tryd.func14, Tryd.ntmps14
  go_wp2_with fail
  go_ret
  exact ⟨_, _, _, rfl, Hn.out.more (by simp), Hb.out⟩
end Go.Proofs.YtidamlkekgnhgaaDoor
