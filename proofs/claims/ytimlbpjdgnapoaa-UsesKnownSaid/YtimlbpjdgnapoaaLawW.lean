/- usufructlaw17.works; two lists of uses, a term or two laid anew. -/
import Derived.Test.YtimlbpjdgnapoaaLawV
namespace Go.Proofs.Ytimlbpjdgnapoaa
set_option linter.unusedVariables false
set_option linter.unusedSimpArgs false
open Go.RowKit

theorem terms2u {w : World} {b : Nat} {B : Nat} {x y : TermD} {A A' : Option Addr} {n c n' c' : Nat} (h : Blk w b 37 #[.bool x.never, .int .u8 x.c, .slice A n c, .bool y.never, .int .u8 y.c, .slice A' n' c']) (hb : b < B) (h1 : RdI .i64 w B A n c x.vars) (h2 : RdI .i64 w B A' n' c' y.vars) : TermsV w B (some ⟨b, 0, none⟩) 2 2 [x, y] :=
  ⟨rfl, Nat.le_refl _, by unfold maxLen; omega, fun _ => ⟨b, 0, rfl, hb, fun i hi => by
    match i, hi with
    | 0, _ => exact ⟨A, n, c, h.cell 0, h.cell 1, h.cell 2, h1⟩
    | 1, _ => exact ⟨A', n', c', h.cell 3, h.cell 4, h.cell 5, h2⟩⟩⟩
theorem terms1u {w : World} {b : Nat} {B : Nat} {x : TermD} {A : Option Addr} {n c : Nat} (h : Blk w b 37 #[.bool x.never, .int .u8 x.c, .slice A n c]) (hb : b < B) (h1 : RdI .i64 w B A n c x.vars) : TermsV w B (some ⟨b, 0, none⟩) 1 1 [x] :=
  ⟨rfl, Nat.le_refl _, by unfold maxLen; omega, fun _ => ⟨b, 0, rfl, hb, fun i hi => by
    match i, hi with
    | 0, _ => exact ⟨A, n, c, h.cell 0, h.cell 1, h.cell 2, h1⟩⟩⟩
/-- two lists laid side by side -/
theorem ls2_new {w : World} {A A' : Option Addr} {n c n' c' : Nat} {a b : List UseD} (hx : UsesV w w.heap.size A n c a) (hy : UsesV w w.heap.size A' n' c' b) :
    LsV (w.alloc (Obj.cells #[.slice A n c, .slice A' n' c'] 25)) (w.alloc (Obj.cells #[.slice A n c, .slice A' n' c'] 25)).heap.size (some ⟨w.heap.size, 0, none⟩) 2 2 [a, b] := by
  have hbx := below_box (w := w) (Obj.cells #[.slice A n c, .slice A' n' c'] 25)
  have h := blk_new w #[.slice A n c, .slice A' n' c'] 25
  exact ⟨rfl, Nat.le_refl _, by unfold maxLen; omega, fun _ => ⟨_, 0, rfl, by simp, fun i hi => by
    match i, hi with
    | 0, _ => exact ⟨A, n, c, h.cell 0, (hx.below hbx).more hbx.size⟩
    | 1, _ => exact ⟨A', n', c', h.cell 1, (hy.below hbx).more hbx.size⟩⟩⟩
theorem ls3_new {w : World} {A A' A'' : Option Addr} {n c n' c' n'' c'' : Nat} {a b d : List UseD} (hx : UsesV w w.heap.size A n c a) (hy : UsesV w w.heap.size A' n' c' b) (hz : UsesV w w.heap.size A'' n'' c'' d) :
    LsV (w.alloc (Obj.cells #[.slice A n c, .slice A' n' c', .slice A'' n'' c''] 25)) (w.alloc (Obj.cells #[.slice A n c, .slice A' n' c', .slice A'' n'' c''] 25)).heap.size (some ⟨w.heap.size, 0, none⟩) 3 3 [a, b, d] := by
  have hbx := below_box (w := w) (Obj.cells #[.slice A n c, .slice A' n' c', .slice A'' n'' c''] 25)
  have h := blk_new w #[.slice A n c, .slice A' n' c', .slice A'' n'' c''] 25
  exact ⟨rfl, Nat.le_refl _, by unfold maxLen; omega, fun _ => ⟨_, 0, rfl, by simp, fun i hi => by
    match i, hi with
    | 0, _ => exact ⟨A, n, c, h.cell 0, (hx.below hbx).more hbx.size⟩
    | 1, _ => exact ⟨A', n', c', h.cell 1, (hy.below hbx).more hbx.size⟩
    | 2, _ => exact ⟨A'', n'', c'', h.cell 2, (hz.below hbx).more hbx.size⟩⟩⟩

def u1 : TermD := ⟨false, 1, []⟩
theorem works_sum : eachU sumT [ofV 0, usedU [⟨false, 1, []⟩, ⟨false, 1, []⟩]] = usedU [⟨false, 3, []⟩, ⟨false, 1, []⟩] := by
  have h : sset (varsOf [ofV 0, usedU [⟨false, 1, []⟩, ⟨false, 1, []⟩]]) = [0, 1] := sset_eq (by simp [Rises]) (fun x => by simp [varsOf, ofV, usedU])
  unfold eachU
  rw [h]
  decide +kernel
theorem ofV0_may : [ofV 0, usedU [⟨false, 1, []⟩, ⟨false, 1, []⟩]].any (fun x => !mayU x) = false := by decide +kernel
theorem ofV0_vars : (varsOf [ofV 0, usedU [⟨false, 1, []⟩, ⟨false, 1, []⟩]]).length ≤ 1048576 := by simp [varsOf, ofV, usedU]

set_option maxRecDepth 100000 in
set_option maxHeartbeats 2000000 in
theorem worksU_any (w : World) :
    Calls Try.prog 9 #[] w fun e w' => e = .returned (.bool true) ∧ Below w.heap.size w w' := by
  go_enter Try.func9, Try.ntmps9
  go_wp2_with fail
  refine (useOf_any 0 w).mono ?_; rintro e w1 ⟨A1, n1, c1, rfl, hr1, hb1⟩
  go_wp2_with fail
  refine (one_any_u _ _ _ _ _).mono ?_; rintro e w2 ⟨rfl, hb2⟩
  have hr2 := (hr1.below hb2).more hb2.size
  have hbel2 := hb1.trans (hb2.mono hb1.size)
  clear hr1 hb1 hb2
  go_wp2_with fail
  refine (one_any_u _ _ _ _ _).mono ?_; rintro e w3 ⟨rfl, hb3⟩
  have hr3 := (hr2.below hb3).more hb3.size
  have hbel3 := hbel2.trans (hb3.mono hbel2.size)
  clear hr2 hbel2 hb3
  go_wp2_with fail
  have hb4 := below_box (w := w3) (Obj.cells #[.bool false, .int .u8 1, .slice none 0 0, .bool false, .int .u8 1, .slice none 0 0] 37)
  have hk4 := blk_new w3 #[.bool false, .int .u8 1, .slice none 0 0, .bool false, .int .u8 1, .slice none 0 0] 37
  have ht4 := terms2u (x := ⟨false, 1, []⟩) (y := ⟨false, 1, []⟩) (B := w3.heap.size + 1) hk4 (by omega) RdI.nil RdI.nil
  refine (used_any _ 2 2 _ _ (by rw [World.size_alloc]; exact ht4) (by omega)).mono ?_; rintro e w5 ⟨A5, n5, c5, rfl, hr5, hb5⟩
  have hb35 := hb4.trans (hb5.mono hb4.size)
  have hr35 := (hr3.below hb35).more hb35.size
  have hbel5 := hbel3.trans (hb35.mono hbel3.size)
  clear hr3 hbel3 hb4 hk4 ht4 hb5 hb35
  have hls := ls2_new hr35 hr5
  have hq := sumU_any _ 2 2 _ _ hls (by omega) ofV0_vars
  rw [ofV0_may, if_neg (by simp), works_sum] at hq
  have Hq := Lib.hid hq
  have hb6 := below_box (w := w5) (Obj.cells #[.slice A1 n1 c1, .slice A5 n5 c5] 25)
  have hbel6 := hbel5.trans (hb6.mono hbel5.size)
  clear hls hq hr35 hr5 hbel5 hb6
  go_wp2_with fail
  refine Hq.out.mono ?_; rintro e w7 ⟨A7, n7, c7, rfl, hr7, hb7⟩
  have hbel7 := hbel6.trans (hb7.mono hbel6.size)
  clear hb7 hbel6 Hq
  go_wp2_with fail
  refine (one_any_u _ _ _ _ _).mono ?_; rintro e w8 ⟨rfl, hb8⟩
  have hr8 := (hr7.below hb8).more hb8.size
  have hbel8 := hbel7.trans (hb8.mono hbel7.size)
  clear hr7 hb8 hbel7
  go_wp2_with fail
  refine (one_any_u _ _ _ _ _).mono ?_; rintro e w9 ⟨rfl, hb9⟩
  have hr9 := (hr8.below hb9).more hb9.size
  have hbel9 := hbel8.trans (hb9.mono hbel8.size)
  clear hr8 hb9 hbel8
  go_wp2_with fail
  have hb10 := below_box (w := w9) (Obj.cells #[.bool false, .int .u8 3, .slice none 0 0, .bool false, .int .u8 1, .slice none 0 0] 37)
  have hk10 := blk_new w9 #[.bool false, .int .u8 3, .slice none 0 0, .bool false, .int .u8 1, .slice none 0 0] 37
  have ht10 := terms2u (x := ⟨false, 3, []⟩) (y := ⟨false, 1, []⟩) (B := w9.heap.size + 1) hk10 (by omega) RdI.nil RdI.nil
  refine (used_any _ 2 2 _ _ (by rw [World.size_alloc]; exact ht10) (by omega)).mono ?_; rintro e w11 ⟨A11, n11, c11, rfl, hr11, hb11⟩
  have hb911 := hb10.trans (hb11.mono hb10.size)
  have hr911 := (hr9.below hb911).more hb911.size
  have hbel11 := hbel9.trans (hb911.mono hbel9.size)
  clear hr9 hbel9 hb10 hk10 ht10 hb11 hb911
  go_wp2_with fail
  refine (sameU_any _ _ _ _ _ _ _ _ w11 hr911 hr11).mono ?_; rintro e w12 ⟨rfl, hb12⟩
  rw [decide_eq_true rfl]
  go_wp2_with fail
  go_ret
  exact ⟨rfl, hbel11.trans (hb12.mono hbel11.size)⟩

end Go.Proofs.Ytimlbpjdgnapoaa
