/- The contract of (*writer).put: a variable, a word. -/
import Derived.Test.YtidamlkekgnhgaaDoorTyT
import Derived.Deep.RegionHeld3
import Derived.Deep.RegionWith
namespace Go.Proofs.YtidamlkekgnhgaaDoor
set_option linter.unusedVariables false
set_option linter.unusedSimpArgs false
open Go.RowKit

theorem bytes_app (a : List UInt8) (s : ByteArray) : ((⟨a.toArray⟩ : ByteArray) ++ s).data.toList = a ++ s.data.toList := by simp

set_option maxRecDepth 100000 in
set_option maxHeartbeats 1000000 in
theorem put_var {w0 : World} {b : Nat} {nm : Value} {ws : List ByteArray} (n v c : Int) (L : List TyD) (A : Option Addr) (m cp : Nat) (ht : Tab w0) (h0 : 0 ≤ n) (h1 : n < 1048576) : PutAt w0 b nm ws (.mk 1 n v c L) A m cp := by
  intro w l hbel hw hlen
  show Calls Tryd.prog 41 #[.pointer (some ⟨b, 0, none⟩), .agg #[.int .u8 1, .int .i64 n, .int .i64 v, .int .u8 c, .slice A m cp]] w _
  have hbx := below_box (w := w) (Obj.cells #[.int .u8 1, .int .i64 n, .int .i64 v, .int .u8 c, .slice A m cp] 27)
  have hz := blk_new w #[.int .u8 1, .int .i64 n, .int .i64 v, .int .u8 c, .slice A m cp] 27
  have hw1 := hw.alloc (Obj.cells #[.int .u8 1, .int .i64 n, .int .i64 v, .int .u8 c, .slice A m cp] 27)
  have hne : some w.heap.size ≠ some b := by have := hw.lt; simp; omega
  have hzl := hz.lt
  obtain ⟨W, hW⟩ : ∃ W, w.alloc (Obj.cells #[.int .u8 1, .int .i64 n, .int .i64 v, .int .u8 c, .slice A m cp] 27) = W := ⟨_, rfl⟩
  rw [hW] at hbx hz hw1 hzl
  have hbel1 := hbel.trans (hbx.mono hbel.size)
  have HW := Lib.hid hW
  have Hw1 := Lib.hid hw1
  have Hbx := Lib.hid hbx
  have Hz := Lib.hid hz
  have Hlen := Lib.hid hlen
  have hB := hbel.size
  have hB1 := hbel1.size
  have Hb1 := Lib.hid hbel1
  clear hW hw1 hbx hbel1 hbel hw hlen
  have hnl : (numT n).size ≤ 21 := numT_size _ (by omega) (by omega)
  have htx : txB ws (.mk 1 n v c L) = 97 :: Lib.itoa n := by rw [txB_eq]; rfl
  have hbs : ((⟨#[97]⟩ : ByteArray) ++ numT n).data.toList = 97 :: Lib.itoa n := by simp [numT]
  rw [htx] at Hlen ⊢
  have ht1 := Lib.hid (ht.below Hb1.out)
  have Hbs := Lib.hid hbs
  have hcat : (9223372036854775807 < 1 + (numT n).size) = False := eq_false (by omega)
  clear hbs htx
  have z0 := Hz.out.cell 0
  go_enter Tryd.func41, Tryd.ntmps41
  go_wp2_with fail
  rw [HW.out]
  go_wp2_with fail
  have z1 := Hz.out.cell 1
  go_region_held3 (fun w' => w'.cell? ⟨w.heap.size, 1, none⟩ = some (.int .i64 n))
    (first | go_keep | exact (hbS.cell (p := ⟨w.heap.size, 1, none⟩) hzl).trans z1 | exact z9)
    ((first
      | (go_at_call 73; refine (itoa_any n (by omega) (by omega) W.drew ht1.out).mono ?_; rintro e wx ⟨rfl, hbS0⟩; have hbS := (Below.drew (Below.refl W.heap.size W)).trans hbS0; clear hbS0)
      | (go_at_call 72; refine (wrS _ (IsWr.below Hw1.out hbS) (by rw [Hbs.out]; exact Hlen.out) (Nat.le_trans hB1 hbS.size)).mono ?_; rintro e wy ⟨rfl, hq⟩; have z9 := ((Hz.out.below hbS hzl).others hq.2.2 hne (by decide)).cell 1)))
  all_goals
    go_wp2_with fail
    rw [Hbs.out] at hq
    go_end0
    exact ⟨rfl, (hq.behind hbS hB1).behind Hbx.out hB⟩
set_option maxRecDepth 100000 in
set_option maxHeartbeats 1000000 in
theorem put_word2 {w0 : World} {b : Nat} {nm : Value} {ws : List ByteArray} (n v c : Int) (L : List TyD) (A : Option Addr) (m cp : Nat) : PutAt w0 b nm ws (.mk 2 n v c L) A m cp := by
  intro w l hbel hw hlen
  show Calls Tryd.prog 41 #[.pointer (some ⟨b, 0, none⟩), .agg #[.int .u8 2, .int .i64 n, .int .i64 v, .int .u8 c, .slice A m cp]] w _
  have hbx := below_box (w := w) (Obj.cells #[.int .u8 2, .int .i64 n, .int .i64 v, .int .u8 c, .slice A m cp] 27)
  have hz := blk_new w #[.int .u8 2, .int .i64 n, .int .i64 v, .int .u8 c, .slice A m cp] 27
  have hw1 := hw.alloc (Obj.cells #[.int .u8 2, .int .i64 n, .int .i64 v, .int .u8 c, .slice A m cp] 27)
  have hne : some w.heap.size ≠ some b := by have := hw.lt; simp; omega
  have hzl := hz.lt
  obtain ⟨W, hW⟩ : ∃ W, w.alloc (Obj.cells #[.int .u8 2, .int .i64 n, .int .i64 v, .int .u8 c, .slice A m cp] 27) = W := ⟨_, rfl⟩
  rw [hW] at hbx hz hw1 hzl
  have hbel1 := hbel.trans (hbx.mono hbel.size)
  have HW := Lib.hid hW
  have Hw1 := Lib.hid hw1
  have Hbx := Lib.hid hbx
  have Hz := Lib.hid hz
  have Hlen := Lib.hid hlen
  have hB := hbel.size
  have hB1 := hbel1.size
  have Hb1 := Lib.hid hbel1
  clear hW hw1 hbx hbel1 hbel hw hlen
  have htx : txB ws (.mk 2 n v c L) = [73, 110, 116] := by rw [txB_eq]; rfl
  have z0 := Hz.out.cell 0
  have hix : ∀ w9, (Instr.index 100 (.agg #[.string ⟨#[]⟩, .string ⟨#[]⟩, .string ⟨#[73, 110, 116]⟩, .string ⟨#[83, 116, 114]⟩, .string ⟨#[73, 111]⟩, .string ⟨#[70, 105, 108, 101]⟩]) (.int .u8 2)).run Tryd.prog w9 = .ok (.string ⟨#[73, 110, 116]⟩) w9 := fun _ => by kernel_rfl
  rw [htx] at Hlen ⊢
  clear htx
  go_enter Tryd.func41, Tryd.ntmps41
  go_wp2_with fail
  rw [HW.out]
  go_wp2_with fail
  go_region_held3 (fun w' => w'.cell? ⟨w.heap.size, 0, none⟩ = some (.int .u8 2))
    (first | go_keep | exact z9)
    ((first
      | (go_at_call 72; refine (wrS ⟨#[73, 110, 116]⟩ (w := W.drew) Hw1.out Hlen.out hB1).mono ?_; rintro e wy ⟨rfl, hq⟩; have z9 := (Hz.out.others (w := W.drew) hq.2.2 hne (by decide)).cell 0)))
  all_goals
    go_wp2_with fail
    go_end0
    exact ⟨rfl, hq.behind (w1 := W.drew) (Hbx.out.trans (Below.drew (Below.refl _ W))) hB⟩
set_option maxRecDepth 100000 in
set_option maxHeartbeats 1000000 in
theorem put_word3 {w0 : World} {b : Nat} {nm : Value} {ws : List ByteArray} (n v c : Int) (L : List TyD) (A : Option Addr) (m cp : Nat) : PutAt w0 b nm ws (.mk 3 n v c L) A m cp := by
  intro w l hbel hw hlen
  show Calls Tryd.prog 41 #[.pointer (some ⟨b, 0, none⟩), .agg #[.int .u8 3, .int .i64 n, .int .i64 v, .int .u8 c, .slice A m cp]] w _
  have hbx := below_box (w := w) (Obj.cells #[.int .u8 3, .int .i64 n, .int .i64 v, .int .u8 c, .slice A m cp] 27)
  have hz := blk_new w #[.int .u8 3, .int .i64 n, .int .i64 v, .int .u8 c, .slice A m cp] 27
  have hw1 := hw.alloc (Obj.cells #[.int .u8 3, .int .i64 n, .int .i64 v, .int .u8 c, .slice A m cp] 27)
  have hne : some w.heap.size ≠ some b := by have := hw.lt; simp; omega
  have hzl := hz.lt
  obtain ⟨W, hW⟩ : ∃ W, w.alloc (Obj.cells #[.int .u8 3, .int .i64 n, .int .i64 v, .int .u8 c, .slice A m cp] 27) = W := ⟨_, rfl⟩
  rw [hW] at hbx hz hw1 hzl
  have hbel1 := hbel.trans (hbx.mono hbel.size)
  have HW := Lib.hid hW
  have Hw1 := Lib.hid hw1
  have Hbx := Lib.hid hbx
  have Hz := Lib.hid hz
  have Hlen := Lib.hid hlen
  have hB := hbel.size
  have hB1 := hbel1.size
  have Hb1 := Lib.hid hbel1
  clear hW hw1 hbx hbel1 hbel hw hlen
  have htx : txB ws (.mk 3 n v c L) = [83, 116, 114] := by rw [txB_eq]; rfl
  have z0 := Hz.out.cell 0
  have hix : ∀ w9, (Instr.index 100 (.agg #[.string ⟨#[]⟩, .string ⟨#[]⟩, .string ⟨#[73, 110, 116]⟩, .string ⟨#[83, 116, 114]⟩, .string ⟨#[73, 111]⟩, .string ⟨#[70, 105, 108, 101]⟩]) (.int .u8 3)).run Tryd.prog w9 = .ok (.string ⟨#[83, 116, 114]⟩) w9 := fun _ => by kernel_rfl
  rw [htx] at Hlen ⊢
  clear htx
  go_enter Tryd.func41, Tryd.ntmps41
  go_wp2_with fail
  rw [HW.out]
  go_wp2_with fail
  go_region_held3 (fun w' => w'.cell? ⟨w.heap.size, 0, none⟩ = some (.int .u8 3))
    (first | go_keep | exact z9)
    ((first
      | (go_at_call 72; refine (wrS ⟨#[83, 116, 114]⟩ (w := W.drew) Hw1.out Hlen.out hB1).mono ?_; rintro e wy ⟨rfl, hq⟩; have z9 := (Hz.out.others (w := W.drew) hq.2.2 hne (by decide)).cell 0)))
  all_goals
    go_wp2_with fail
    go_end0
    exact ⟨rfl, hq.behind (w1 := W.drew) (Hbx.out.trans (Below.drew (Below.refl _ W))) hB⟩
set_option maxRecDepth 100000 in
set_option maxHeartbeats 1000000 in
theorem put_word4 {w0 : World} {b : Nat} {nm : Value} {ws : List ByteArray} (n v c : Int) (L : List TyD) (A : Option Addr) (m cp : Nat) : PutAt w0 b nm ws (.mk 4 n v c L) A m cp := by
  intro w l hbel hw hlen
  show Calls Tryd.prog 41 #[.pointer (some ⟨b, 0, none⟩), .agg #[.int .u8 4, .int .i64 n, .int .i64 v, .int .u8 c, .slice A m cp]] w _
  have hbx := below_box (w := w) (Obj.cells #[.int .u8 4, .int .i64 n, .int .i64 v, .int .u8 c, .slice A m cp] 27)
  have hz := blk_new w #[.int .u8 4, .int .i64 n, .int .i64 v, .int .u8 c, .slice A m cp] 27
  have hw1 := hw.alloc (Obj.cells #[.int .u8 4, .int .i64 n, .int .i64 v, .int .u8 c, .slice A m cp] 27)
  have hne : some w.heap.size ≠ some b := by have := hw.lt; simp; omega
  have hzl := hz.lt
  obtain ⟨W, hW⟩ : ∃ W, w.alloc (Obj.cells #[.int .u8 4, .int .i64 n, .int .i64 v, .int .u8 c, .slice A m cp] 27) = W := ⟨_, rfl⟩
  rw [hW] at hbx hz hw1 hzl
  have hbel1 := hbel.trans (hbx.mono hbel.size)
  have HW := Lib.hid hW
  have Hw1 := Lib.hid hw1
  have Hbx := Lib.hid hbx
  have Hz := Lib.hid hz
  have Hlen := Lib.hid hlen
  have hB := hbel.size
  have hB1 := hbel1.size
  have Hb1 := Lib.hid hbel1
  clear hW hw1 hbx hbel1 hbel hw hlen
  have htx : txB ws (.mk 4 n v c L) = [73, 111] := by rw [txB_eq]; rfl
  have z0 := Hz.out.cell 0
  have hix : ∀ w9, (Instr.index 100 (.agg #[.string ⟨#[]⟩, .string ⟨#[]⟩, .string ⟨#[73, 110, 116]⟩, .string ⟨#[83, 116, 114]⟩, .string ⟨#[73, 111]⟩, .string ⟨#[70, 105, 108, 101]⟩]) (.int .u8 4)).run Tryd.prog w9 = .ok (.string ⟨#[73, 111]⟩) w9 := fun _ => by kernel_rfl
  rw [htx] at Hlen ⊢
  clear htx
  go_enter Tryd.func41, Tryd.ntmps41
  go_wp2_with fail
  rw [HW.out]
  go_wp2_with fail
  go_region_held3 (fun w' => w'.cell? ⟨w.heap.size, 0, none⟩ = some (.int .u8 4))
    (first | go_keep | exact z9)
    ((first
      | (go_at_call 72; refine (wrS ⟨#[73, 111]⟩ (w := W.drew) Hw1.out Hlen.out hB1).mono ?_; rintro e wy ⟨rfl, hq⟩; have z9 := (Hz.out.others (w := W.drew) hq.2.2 hne (by decide)).cell 0)))
  all_goals
    go_wp2_with fail
    go_end0
    exact ⟨rfl, hq.behind (w1 := W.drew) (Hbx.out.trans (Below.drew (Below.refl _ W))) hB⟩
set_option maxRecDepth 100000 in
set_option maxHeartbeats 1000000 in
theorem put_word5 {w0 : World} {b : Nat} {nm : Value} {ws : List ByteArray} (n v c : Int) (L : List TyD) (A : Option Addr) (m cp : Nat) : PutAt w0 b nm ws (.mk 5 n v c L) A m cp := by
  intro w l hbel hw hlen
  show Calls Tryd.prog 41 #[.pointer (some ⟨b, 0, none⟩), .agg #[.int .u8 5, .int .i64 n, .int .i64 v, .int .u8 c, .slice A m cp]] w _
  have hbx := below_box (w := w) (Obj.cells #[.int .u8 5, .int .i64 n, .int .i64 v, .int .u8 c, .slice A m cp] 27)
  have hz := blk_new w #[.int .u8 5, .int .i64 n, .int .i64 v, .int .u8 c, .slice A m cp] 27
  have hw1 := hw.alloc (Obj.cells #[.int .u8 5, .int .i64 n, .int .i64 v, .int .u8 c, .slice A m cp] 27)
  have hne : some w.heap.size ≠ some b := by have := hw.lt; simp; omega
  have hzl := hz.lt
  obtain ⟨W, hW⟩ : ∃ W, w.alloc (Obj.cells #[.int .u8 5, .int .i64 n, .int .i64 v, .int .u8 c, .slice A m cp] 27) = W := ⟨_, rfl⟩
  rw [hW] at hbx hz hw1 hzl
  have hbel1 := hbel.trans (hbx.mono hbel.size)
  have HW := Lib.hid hW
  have Hw1 := Lib.hid hw1
  have Hbx := Lib.hid hbx
  have Hz := Lib.hid hz
  have Hlen := Lib.hid hlen
  have hB := hbel.size
  have hB1 := hbel1.size
  have Hb1 := Lib.hid hbel1
  clear hW hw1 hbx hbel1 hbel hw hlen
  have htx : txB ws (.mk 5 n v c L) = [70, 105, 108, 101] := by rw [txB_eq]; rfl
  have z0 := Hz.out.cell 0
  have hix : ∀ w9, (Instr.index 100 (.agg #[.string ⟨#[]⟩, .string ⟨#[]⟩, .string ⟨#[73, 110, 116]⟩, .string ⟨#[83, 116, 114]⟩, .string ⟨#[73, 111]⟩, .string ⟨#[70, 105, 108, 101]⟩]) (.int .u8 5)).run Tryd.prog w9 = .ok (.string ⟨#[70, 105, 108, 101]⟩) w9 := fun _ => by kernel_rfl
  rw [htx] at Hlen ⊢
  clear htx
  go_enter Tryd.func41, Tryd.ntmps41
  go_wp2_with fail
  rw [HW.out]
  go_wp2_with fail
  go_region_held3 (fun w' => w'.cell? ⟨w.heap.size, 0, none⟩ = some (.int .u8 5))
    (first | go_keep | exact z9)
    ((first
      | (go_at_call 72; refine (wrS ⟨#[70, 105, 108, 101]⟩ (w := W.drew) Hw1.out Hlen.out hB1).mono ?_; rintro e wy ⟨rfl, hq⟩; have z9 := (Hz.out.others (w := W.drew) hq.2.2 hne (by decide)).cell 0)))
  all_goals
    go_wp2_with fail
    go_end0
    exact ⟨rfl, hq.behind (w1 := W.drew) (Hbx.out.trans (Below.drew (Below.refl _ W))) hB⟩
end Go.Proofs.YtidamlkekgnhgaaDoor
