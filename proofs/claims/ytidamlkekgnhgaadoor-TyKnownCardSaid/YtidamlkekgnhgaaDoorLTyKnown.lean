/- TyKnown holds: the document's examples of types. Conditions: the variables that the row lists are laid as the program's text lays them. -/
import Derived.Test.YtidamlkekgnhgaaDoorLawD
import Derived.Test.YtidamlkekgnhgaaDoorRowE
namespace Go.Proofs.YtidamlkekgnhgaaDoor
set_option linter.unusedVariables false
set_option linter.unusedSimpArgs false
open Go.ChangeShapes Go.WideShapes Go.ChangeAt Go.RowKit

def k1 : TyD := .mk 7 0 0 1 [plainV 0, tInt]
theorem k1_may : mayT k1 = true := by decide +kernel
theorem k1_text : txB ws2 k1 = [97, 48, 32, 45, 49, 62, 32, 73, 110, 116] := by decide +kernel
def k2 : TyD := .mk 7 0 0 3 [.mk 7 0 2 0 [plainV 0, plainV 0], .mk 8 1 0 0 [.mk 8 1 0 0 [plainV 0]]]
theorem k2_may : mayT k2 = true := by decide +kernel
theorem k2_text : txB ws2 k2 = [40, 97, 48, 32, 45, 109, 50, 62, 32, 97, 48, 41, 32, 45, 42, 62, 32, 76, 105, 115, 116, 32, 40, 76, 105, 115, 116, 32, 97, 48, 41] := by decide +kernel
def k3 : TyD := .mk 6 0 0 0 [.mk 8 0 0 0 []]
theorem k3_may : mayT k3 = true := by decide +kernel
theorem k3_text : txB ws2 k3 = [65, 114, 114, 32, 66, 111, 111, 108] := by decide +kernel
def k4 : TyD := .mk 6 0 0 0 [.mk 6 0 0 0 [.mk 3 0 0 0 []]]
theorem k4_may : mayT k4 = true := by decide +kernel
theorem k4_text : txB ws2 k4 = [65, 114, 114, 32, 40, 65, 114, 114, 32, 83, 116, 114, 41] := by decide +kernel
def k5 : TyD := .mk 8 7 0 0 []
theorem k5_may : mayT k5 = true := by decide +kernel
theorem k5_text : txB [] k5 = [35, 55] := by decide +kernel

set_option maxRecDepth 100000 in
set_option maxHeartbeats 8000000 in
theorem walk_tyKnown (w : World) (ht : Tab w) :
    Calls Tryd.prog 3 #[] w fun e w' => e = .returned (.bool true) ∧ Below w.heap.size w w' := by
  have Ht := Lib.hid ht
  clear ht
  go_enter Tryd.func3, Tryd.ntmps3
  go_wp2_with fail
  refine (lawV_any 0 w).mono ?_; rintro e w1 ⟨A1, m1, p1, rfl, h1, hb1⟩
  have hn2 := blk_new w1 #[.int .u8 1, .int .i64 0, .int .i64 0, .int .u8 0, .slice A1 m1 p1] 27
  have hb2 := below_box (w := w1) (Obj.cells #[.int .u8 1, .int .i64 0, .int .i64 0, .int .u8 0, .slice A1 m1 p1] 27)
  have hs2 : (w1.alloc (Obj.cells #[.int .u8 1, .int .i64 0, .int .i64 0, .int .u8 0, .slice A1 m1 p1] 27)).heap.size = w1.heap.size + 1 := by simp
  obtain ⟨w2, hw2⟩ : ∃ W, w1.alloc (Obj.cells #[.int .u8 1, .int .i64 0, .int .i64 0, .int .u8 0, .slice A1 m1 p1] 27) = W := ⟨_, rfl⟩
  rw [hw2] at hn2 hb2 hs2
  have hn3 := blk_new w2 #[.int .i64 2, .int .u8 0] 24
  have hb3 := below_box (w := w2) (Obj.cells #[.int .i64 2, .int .u8 0] 24)
  obtain ⟨W, hW⟩ : ∃ W, w2.alloc (Obj.cells #[.int .i64 2, .int .u8 0] 24) = W := ⟨_, rfl⟩
  rw [hW] at hn3 hb3
  have g1 : w1.heap.size < W.heap.size := by have := hb3.size; omega
  have hblk1 := hn2.below hb3 (by omega)
  have g2 : w1.heap.size + 1 < W.heap.size := by have := hn3.lt; omega
  rw [hs2] at hn3
  have HV := Lib.hid ((((h1.below hb2).more hb2.size).below hb3).more hb3.size)
  have Hw := Lib.hid (hb1.trans ((hb2.trans (hb3.mono hb2.size)).mono hb1.size))
  have t0 := hblk1.cell 0
  have t1 := hblk1.cell 1
  have t2 := hblk1.cell 2
  have t3 := hblk1.cell 3
  have t4 := hblk1.cell 4
  have s0 := hn3.cell 0
  have s1 := hn3.cell 1
  have H2 := Lib.hid hw2
  have HW := Lib.hid hW
  clear hn2 hb2 hs2 hw2 hn3 hb3 hW hblk1 h1 hb1
  go_wp2_with fail
  rw [H2.out, HW.out]
  have hbS : Below W.heap.size W W.drew := Below.drew (Below.refl _ _)
  have st0 := trivial
  go_region_held3 (fun w' => w'.cell? ⟨w1.heap.size, 0, none⟩ = some (.int .u8 1) ∧ w'.cell? ⟨w1.heap.size, 1, none⟩ = some (.int .i64 0) ∧ w'.cell? ⟨w1.heap.size, 2, none⟩ = some (.int .i64 0) ∧ w'.cell? ⟨w1.heap.size, 3, none⟩ = some (.int .u8 0) ∧ w'.cell? ⟨w1.heap.size, 4, none⟩ = some (.slice A1 m1 p1) ∧ w'.cell? ⟨w1.heap.size + 1, 0, none⟩ = some (.int .i64 2) ∧ w'.cell? ⟨w1.heap.size + 1, 1, none⟩ = some (.int .u8 0))
    (first | go_keep | exact ⟨(hbS.cell (p := ⟨w1.heap.size, 0, none⟩) g1).trans t0, (hbS.cell (p := ⟨w1.heap.size, 1, none⟩) g1).trans t1, (hbS.cell (p := ⟨w1.heap.size, 2, none⟩) g1).trans t2, (hbS.cell (p := ⟨w1.heap.size, 3, none⟩) g1).trans t3, (hbS.cell (p := ⟨w1.heap.size, 4, none⟩) g1).trans t4, (hbS.cell (p := ⟨w1.heap.size + 1, 0, none⟩) g2).trans s0, (hbS.cell (p := ⟨w1.heap.size + 1, 1, none⟩) g2).trans s1⟩ | exact ⟨((hbS.alloc hbS.size _).cell (p := ⟨w1.heap.size, 0, none⟩) g1).trans t0, ((hbS.alloc hbS.size _).cell (p := ⟨w1.heap.size, 1, none⟩) g1).trans t1, ((hbS.alloc hbS.size _).cell (p := ⟨w1.heap.size, 2, none⟩) g1).trans t2, ((hbS.alloc hbS.size _).cell (p := ⟨w1.heap.size, 3, none⟩) g1).trans t3, ((hbS.alloc hbS.size _).cell (p := ⟨w1.heap.size, 4, none⟩) g1).trans t4, ((hbS.alloc hbS.size _).cell (p := ⟨w1.heap.size + 1, 0, none⟩) g2).trans s0, ((hbS.alloc hbS.size _).cell (p := ⟨w1.heap.size + 1, 1, none⟩) g2).trans s1⟩)
    ((first
      | (go_at_call 10; clear st0; have st1 := trivial; refine (worksTy_any _ (Ht.out.below (Hw.out.trans (hbS.mono Hw.out.size)))).mono ?_; rintro e wx ⟨rfl, hbx⟩; replace hbS := hbS.trans (hbx.mono hbS.size); clear hbx)
      | (go_at_call 13; clear st1; have st2 := trivial; refine (lawOf_any 2 [] none 0 0 _ (TysV.nil)).mono ?_; rintro e wx ⟨Aa, ma, pa, rfl, ha, hbx⟩; replace hbS := hbS.trans (hbx.mono hbS.size); clear hbx)
      | (go_at_call 12; clear st2; have st3 := trivial; refine (lawFun_any (plainV 0) tInt 0 1 A1 m1 p1 Aa ma pa _ ((HV.out.below hbS).more hbS.size) ha).mono ?_; rintro e wx ⟨Ab, mb, pb, rfl, hb, hbx⟩; replace hbS := hbS.trans (hbx.mono hbS.size); clear hbx; clear ha)
      | (go_at_call 14; clear st3; have st4 := trivial; refine (names_any _).mono ?_; rintro e wx ⟨A9, n9, c9, rfl, hn9, hbx⟩; replace hb := (hb.below hbx).more hbx.size; replace hbS := hbS.trans (hbx.mono hbS.size); clear hbx)
      | (go_at_call 11; clear st4; have st5 := trivial; refine (tyText_at (t := k1) k1_text k1_may Ab mb pb A9 n9 c9 _ hb hn9 (Ht.out.below (Hw.out.trans (hbS.mono Hw.out.size))) (by decide)).mono ?_; rintro e wx ⟨rfl, hbx⟩; replace hbS := hbS.trans (hbx.mono hbS.size); clear hbx; clear hn9 hb)
      | (go_at_call 12; clear st5; have st6 := trivial; refine (lawFun_any (plainV 0) (plainV 0) 2 0 A1 m1 p1 A1 m1 p1 _ ((HV.out.below hbS).more hbS.size) ((HV.out.below hbS).more hbS.size)).mono ?_; rintro e wx ⟨Ac, mc, pc, rfl, hc, hbx⟩; replace hbS := hbS.trans (hbx.mono hbS.size); clear hbx)
      | (go_at_call 12; clear st5; have st6 := trivial; have hbA := hbS.alloc hbS.size (Obj.cells #[.int .u8 1, .int .i64 0, .int .i64 0, .int .u8 0, .slice A1 m1 p1] 27); have hrow := ty1_new (a := plainV 0) (B := (wx.alloc (Obj.cells #[.int .u8 1, .int .i64 0, .int .i64 0, .int .u8 0, .slice A1 m1 p1] 27)).heap.size) (blk_new wx #[.int .u8 1, .int .i64 0, .int .i64 0, .int .u8 0, .slice A1 m1 p1] 27) (by simp) ((HV.out.below hbA).more hbA.size); refine (lawFun_any (plainV 0) (plainV 0) 2 0 A1 m1 p1 A1 m1 p1 _ ((HV.out.below hbA).more hbA.size) ((HV.out.below hbA).more hbA.size)).mono ?_; rintro e wx ⟨Ac, mc, pc, rfl, hc, hbx⟩; replace hrow := (hrow.below hbx).more hbx.size; replace hbS := hbA.trans (hbx.mono hbA.size); clear hbx hbA)
      | (go_at_call 15; clear st6; have st7 := trivial; refine (lawData_any 1 [plainV 0] _ 1 1 _ hrow).mono ?_; rintro e wx ⟨Ad, md, pd, rfl, hd, hbx⟩; replace hc := (hc.below hbx).more hbx.size; replace hbS := hbS.trans (hbx.mono hbS.size); clear hbx hrow)
      | (go_at_call 15; clear st6; have st7 := trivial; refine (lawData_any 1 [plainV 0] _ 1 1 _ (ty1_new (a := plainV 0) (blk_new _ _ _) (by simp) (((((HV.out.below hbS).more hbS.size)).below (below_box _)).more (by simp)))).mono ?_; rintro e wx ⟨Ad, md, pd, rfl, hd, hbx⟩; replace hc := (((hc.below (below_box _)).more (Nat.le_of_lt (by simp))).below hbx).more hbx.size; replace hbS := (hbS.alloc hbS.size _).trans (hbx.mono (hbS.alloc hbS.size _).size); clear hbx)
      | (go_at_call 15; clear st7; have st8 := trivial; refine (lawData_any 1 [.mk 8 1 0 0 [plainV 0]] _ 1 1 _ (ty1_new (a := .mk 8 1 0 0 [plainV 0]) (blk_new _ _ _) (by simp) (((hd).below (below_box _)).more (by simp)))).mono ?_; rintro e wx ⟨Ae, me, pe, rfl, he, hbx⟩; replace hc := (((hc.below (below_box _)).more (Nat.le_of_lt (by simp))).below hbx).more hbx.size; replace hbS := (hbS.alloc hbS.size _).trans (hbx.mono (hbS.alloc hbS.size _).size); clear hbx; clear hd)
      | (go_at_call 12; clear st8; have st9 := trivial; refine (lawFun_any (.mk 7 0 2 0 [plainV 0, plainV 0]) (.mk 8 1 0 0 [.mk 8 1 0 0 [plainV 0]]) 0 3 Ac mc pc Ae me pe _ hc he).mono ?_; rintro e wx ⟨Af, mf, pf, rfl, hf, hbx⟩; replace hbS := hbS.trans (hbx.mono hbS.size); clear hbx; clear hc he)
      | (go_at_call 14; clear st9; have st10 := trivial; refine (names_any _).mono ?_; rintro e wx ⟨A9, n9, c9, rfl, hn9, hbx⟩; replace hf := (hf.below hbx).more hbx.size; replace hbS := hbS.trans (hbx.mono hbS.size); clear hbx)
      | (go_at_call 11; clear st10; have st11 := trivial; refine (tyText_at (t := k2) k2_text k2_may Af mf pf A9 n9 c9 _ hf hn9 (Ht.out.below (Hw.out.trans (hbS.mono Hw.out.size))) (by decide)).mono ?_; rintro e wx ⟨rfl, hbx⟩; replace hbS := hbS.trans (hbx.mono hbS.size); clear hbx; clear hn9 hf)
      | (go_at_call 15; clear st11; have st12 := trivial; refine (lawData_any 0 [] none 0 0 _ (TysV.nil)).mono ?_; rintro e wx ⟨Ag, mg, pg, rfl, hg, hbx⟩; replace hbS := hbS.trans (hbx.mono hbS.size); clear hbx)
      | (go_at_call 13; clear st12; have st13 := trivial; refine (lawOf_any 6 [.mk 8 0 0 0 []] _ 1 1 _ (ty1_new (a := .mk 8 0 0 0 []) (blk_new _ _ _) (by simp) (((hg).below (below_box _)).more (by simp)))).mono ?_; rintro e wx ⟨Ai, mi, pi, rfl, hi, hbx⟩; replace hbS := (hbS.alloc hbS.size _).trans (hbx.mono (hbS.alloc hbS.size _).size); clear hbx; clear hg)
      | (go_at_call 14; clear st13; have st14 := trivial; refine (names_any _).mono ?_; rintro e wx ⟨A9, n9, c9, rfl, hn9, hbx⟩; replace hi := (hi.below hbx).more hbx.size; replace hbS := hbS.trans (hbx.mono hbS.size); clear hbx)
      | (go_at_call 11; clear st14; have st15 := trivial; refine (tyText_at (t := k3) k3_text k3_may Ai mi pi A9 n9 c9 _ hi hn9 (Ht.out.below (Hw.out.trans (hbS.mono Hw.out.size))) (by decide)).mono ?_; rintro e wx ⟨rfl, hbx⟩; replace hbS := hbS.trans (hbx.mono hbS.size); clear hbx; clear hn9 hi)
      | (go_at_call 13; clear st15; have st16 := trivial; refine (lawOf_any 3 [] none 0 0 _ (TysV.nil)).mono ?_; rintro e wx ⟨Aj, mj, pj, rfl, hj, hbx⟩; replace hbS := hbS.trans (hbx.mono hbS.size); clear hbx)
      | (go_at_call 13; clear st16; have st17 := trivial; refine (lawOf_any 6 [.mk 3 0 0 0 []] _ 1 1 _ (ty1_new (a := .mk 3 0 0 0 []) (blk_new _ _ _) (by simp) (((hj).below (below_box _)).more (by simp)))).mono ?_; rintro e wx ⟨Ak, mk, pk, rfl, hk, hbx⟩; replace hbS := (hbS.alloc hbS.size _).trans (hbx.mono (hbS.alloc hbS.size _).size); clear hbx; clear hj)
      | (go_at_call 13; clear st17; have st18 := trivial; refine (lawOf_any 6 [.mk 6 0 0 0 [.mk 3 0 0 0 []]] _ 1 1 _ (ty1_new (a := .mk 6 0 0 0 [.mk 3 0 0 0 []]) (blk_new _ _ _) (by simp) (((hk).below (below_box _)).more (by simp)))).mono ?_; rintro e wx ⟨Al, ml, pl, rfl, hl, hbx⟩; replace hbS := (hbS.alloc hbS.size _).trans (hbx.mono (hbS.alloc hbS.size _).size); clear hbx; clear hk)
      | (go_at_call 14; clear st18; have st19 := trivial; refine (names_any _).mono ?_; rintro e wx ⟨A9, n9, c9, rfl, hn9, hbx⟩; replace hl := (hl.below hbx).more hbx.size; replace hbS := hbS.trans (hbx.mono hbS.size); clear hbx)
      | (go_at_call 11; clear st19; have st20 := trivial; refine (tyText_at (t := k4) k4_text k4_may Al ml pl A9 n9 c9 _ hl hn9 (Ht.out.below (Hw.out.trans (hbS.mono Hw.out.size))) (by decide)).mono ?_; rintro e wx ⟨rfl, hbx⟩; replace hbS := hbS.trans (hbx.mono hbS.size); clear hbx; clear hn9 hl)
      | (go_at_call 15; clear st20; have st21 := trivial; refine (lawData_any 7 [] none 0 0 _ (TysV.nil)).mono ?_; rintro e wx ⟨Ao, mo, po, rfl, ho, hbx⟩; replace hbS := hbS.trans (hbx.mono hbS.size); clear hbx)
      | (go_at_call 11; clear st21; have st22 := trivial; refine (tyText_at (t := k5) k5_text k5_may Ao mo po none 0 0 _ ho NmV.nil (Ht.out.below (Hw.out.trans (hbS.mono Hw.out.size))) (by decide)).mono ?_; rintro e wx ⟨rfl, hbx⟩; replace hbS := hbS.trans (hbx.mono hbS.size); clear hbx)))
  all_goals
    go_wp2_with fail
    go_ret
    exact ⟨rfl, Hw.out.trans (hbS.mono Hw.out.size)⟩

/-! ### the row's step -/
namespace tyKnown
set_option maxRecDepth 100000 in
theorem lifted (os : Os) (started : os.Started) (H : Type) (enc : TypeId × Value → H) :
    ReturnsInHanded {} Tryd.checked os 3 .any (fun w args => (Rows.tyKnownSpec.pre enc Tryd.prog Tryd.f3 [] false w args ∧ laidMetH Tryd.prog laid3 w) ∧ sizedMet enc Tryd.prog Tryd.f3 (OpenSpec.ofChange Rows.tyKnownSpec) false w args) (Rows.tyKnownSpec.post enc Tryd.prog Tryd.f3 false true false false) := by
  refine returnsInHanded_of_change_and (C := Tryd.checked) (X := fun w _ => laidMetH Tryd.prog laid3 w) (fun _ _ _ hh h => h.of_heap hh) own started (by kernel_rfl) Tryd.func3
    (ChangeSpec.witness_shaped (enc := enc) (C := Tryd.checked) (os := os) (X := fun w _ => laidMetH Tryd.prog laid3 w) false (World.doorLaid Tryd.prog 400 os) #[] 8 rfl (World.shaped_of_RefB (by kernel_rfl) (by kernel_rfl)) (by kernel_rfl) (by kernel_rfl) (by kernel_rfl) (door_met os _)) ?_
  intro W base args ds gs before hval0 hW hcnd hsz0 hL _
  have hsz : (DataW.weightsEach Tryd.prog (Tryd.f3.params.toList ++ Rows.tyKnownSpec.plain.varTypes Tryd.prog) (ds ++ gs)).all (· ≤ reachBytes) = true := hsz0
  have hval : ∀ (j : Nat) t v, Tryd.f3.params[j]? = some t → args[j]? = some v → Value.okWide Tryd.prog W .any base t v := hval0
  have hW' := hW
  obtain ⟨p, q, hA0, hV, rfl, hfz, hnd⟩ := hW
  have hA : DataW.TrodAll enc Tryd.prog W 0 (fun _ => true) true Tryd.f3.params.toList args.toList ds p := hA0
  rw [Tryd.params3] at hA hval hsz
  obtain ⟨hargs, rfl, rfl⟩ := trodAll_nil hA
  obtain rfl : args = #[] := by cases args; simp_all
  obtain ⟨rfl, rfl⟩ := trodVars_none hV
  refine (walk_tyKnown (w := W) (tab_of_laid hL) ).mono fun e W' ⟨he, bel⟩ => ?_
  subst he
  exact ⟨_, rfl, law_post laidOut (by kernel_rfl) rfl rfl Tryd.underlying4 hW' rfl rfl rfl bel⟩
theorem over : Rows.tyKnownRow.holds Tryd.pinned (OpenSpec.ofChange Rows.tyKnownSpec) :=
  OpenClaim.holds_of_wide 3 Tryd.f3 rfl rfl rfl rfl rfl rfl rfl ⟨rfl, rfl, rfl, rfl, rfl⟩ rfl rfl rfl rfl rfl (by kernel_rfl) Tryd.func3 (by kernel_rfl)
    (of_decide_eq_true (by kernel_rfl)) (by unfold Func.isWrapper; first | (rw [if_pos (by decide +kernel)]; kernel_rfl) | (rw [if_neg (by decide +kernel)]; exact ⟨rfl, rfl⟩))
    (fun os started H enc _ => lifted os started H enc)
theorem card : Rows.TyKnownCardSaid :=
  Claim7.holds_tied_plain_at .later [] [.data, .data, .data] true Rows.tyKnownCard.stood.harness false
    over (fun _ h => by cases h) (by kernel_rfl) (fun _ h => by cases h) tyKnown_row_tie rfl ⟨rfl, rfl⟩ (by kernel_rfl) rfl
    (fun f fn hf hfn => by
      obtain rfl : f = 3 := Option.some.inj ((show Tryd.prog.funcNamed "usufruct/usufructlaw06.TyKnown" = some 3 by kernel_rfl).symm.trans hf) |>.symm
      obtain rfl : fn = Tryd.f3 := (Option.some.inj (Tryd.func3.symm.trans hfn)).symm
      exact ⟨by kernel_rfl, fun j t ht => by rw [Tryd.params3] at ht; simp at ht⟩)
    (by kernel_rfl)
/-- the statement -/
theorem proved : Rows.TyKnownCardSaid := card
#print axioms proved
end tyKnown
end Go.Proofs.YtidamlkekgnhgaaDoor
