/- UsesKnown holds: the document's examples of uses. No input, no conditions. -/
import Derived.Test.YtimlbpjdgnapoaaLawW
import Derived.Test.YtimlbpjdgnapoaaRow
import Derived.Deep.RegionHeld3
namespace Go.Proofs.Ytimlbpjdgnapoaa
set_option linter.unusedVariables false
set_option linter.unusedSimpArgs false
open Go.ChangeShapes Go.WideShapes Go.ChangeAt Go.RowKit

theorem known_a : eachU joinT [ofV 0, []] = usedU [⟨false, 2, []⟩] := by
  have h : sset (varsOf [ofV 0, []]) = [0] := sset_eq (by simp [Rises]) (fun x => by simp [varsOf, ofV])
  unfold eachU
  rw [h]
  decide +kernel
theorem known_am : [ofV 0, []].any (fun x => !mayU x) = false := by decide +kernel
theorem known_av : (varsOf [ofV 0, []]).length ≤ 1048576 := by simp [varsOf, ofV]
theorem sset_one (x : Int) : sset [x] = [x] := sset_self (by simp [Rises])
theorem known_b : scaleU 0 4 (ofV 0) = usedU [⟨false, 1, [4]⟩] := by
  rw [scaleU_eq (good_of (by decide +kernel))]
  have h : scaleT 0 4 ⟨false, 1, []⟩ = ⟨false, 1, [4]⟩ := by
    have := sset_one 4
    simp [scaleT, cleanT, this]
  simp [ofV, usedU, h]
theorem known_c : timesU ⟨true, 0, []⟩ (ofV 0) = usedU [⟨false, 2, []⟩] := by
  have h : leastT ⟨true, 0, []⟩ = ⟨false, 2, []⟩ := by decide +kernel
  unfold timesU
  rw [h]
  show scaleU 2 0 (ofV 0) = _
  rw [scaleU_eq (good_of (by decide +kernel))]
  have h : scaleT 2 0 ⟨false, 1, []⟩ = ⟨false, 2, []⟩ := by decide +kernel
  simp [ofV, usedU, h]
theorem known_t : ofU (usedU [⟨false, 1, []⟩, ⟨false, 1, []⟩]) 1 = ⟨false, 1, []⟩ := by decide +kernel
theorem known_l : ((usedU [⟨false, 1, []⟩, ⟨false, 1, []⟩]).filter fun t => t.v != 1) = ofV 0 := by decide +kernel
theorem rd_one {w : World} (x : Int) : RdI .i64 (w.alloc (Obj.cells #[.int .i64 x] 3)) (w.alloc (Obj.cells #[.int .i64 x] 3)).heap.size (some ⟨w.heap.size, 0, none⟩) 1 1 [x] :=
  ⟨by have := Rd.new w [.int .i64 x] 3; rw [World.size_alloc]; exact this, Nat.le_refl _, by unfold maxLen; omega⟩

/-- how the calls of one use go: one term, laid, used -/
theorem used1_any (c : Int) (A : Option Addr) (n cp : Nat) (vs : List Int) (w0 w : World) (hb : Below w0.heap.size w0 w) (hr : RdI .i64 w w.heap.size A n cp vs) :
    Calls Try.prog 22 #[.slice (some ⟨w.heap.size, 0, none⟩) 1 1] (w.alloc (Obj.cells #[.bool false, .int .u8 c, .slice A n cp] 37)) fun e w' => ∃ A' n' c', e = .returned (.slice A' n' c') ∧ UsesV w' w'.heap.size A' n' c' (usedU [⟨false, c, vs⟩]) ∧ Below w0.heap.size w0 w' := by
  have hbx := below_box (w := w) (Obj.cells #[.bool false, .int .u8 c, .slice A n cp] 37)
  have hk := blk_new w #[.bool false, .int .u8 c, .slice A n cp] 37
  have ht := terms1u (x := ⟨false, c, vs⟩) hk hk.lt ((hr.below hbx).more hbx.size)
  refine (used_any _ 1 1 _ _ ht (by omega)).mono ?_
  rintro e w' ⟨A', n', c', rfl, hr', hb'⟩
  exact ⟨A', n', c', rfl, hr', hb.trans ((hbx.trans (hb'.mono hbx.size)).mono hb.size)⟩
theorem one_in (x : Int) (A : Option Addr) (n c : Nat) (w0 w : World) (hb : Below w0.heap.size w0 w) :
    Calls Try.prog 23 #[.int .u8 x, .slice A n c] w fun e w' => e = .returned (.agg #[.bool false, .int .u8 x, .slice A n c]) ∧ Below w0.heap.size w0 w' :=
  (one_any_u x A n c w).mono fun e w' ⟨h1, h2⟩ => ⟨h1, hb.trans (h2.mono hb.size)⟩
theorem one4_in (x : Int) (w0 w : World) (hb : Below w0.heap.size w0 w) :
    Calls Try.prog 23 #[.int .u8 x, .slice (some ⟨w.heap.size, 0, none⟩) 1 1] (w.alloc (Obj.cells #[.int .i64 4] 3)) fun e w' => e = .returned (.agg #[.bool false, .int .u8 x, .slice (some ⟨w.heap.size, 0, none⟩) 1 1]) ∧ RdI .i64 w' w'.heap.size (some ⟨w.heap.size, 0, none⟩) 1 1 [4] ∧ Below w0.heap.size w0 w' := by
  have hbx := below_box (w := w) (Obj.cells #[.int .i64 4] 3)
  have hr := rd_one (w := w) 4
  exact (one_any_u x _ _ _ _).mono fun e w' ⟨h1, h2⟩ => ⟨h1, (hr.below h2).more h2.size, hb.trans ((hbx.trans (h2.mono hbx.size)).mono hb.size)⟩
theorem same_in {A : Option Addr} {n c : Nat} {A' : Option Addr} {n' c' : Nat} {xs : List UseD} {w0 w : World} (hx : UsesV w0 w0.heap.size A n c xs) (hy : UsesV w w.heap.size A' n' c' xs) (hb : Below w0.heap.size w0 w) :
    Calls Try.prog 18 #[.slice A n c, .slice A' n' c'] w fun e w' => e = .returned (.bool true) ∧ Below w0.heap.size w0 w' :=
  (sameU_any A n c xs A' n' c' xs w ((hx.below hb).more hb.size) hy).mono fun e w' ⟨h1, h2⟩ => ⟨by rw [h1, decide_eq_true rfl], hb.trans (h2.mono hb.size)⟩

set_option maxRecDepth 100000 in
set_option maxHeartbeats 8000000 in
theorem walk_usesKnown {w : World} :
    Calls Try.prog 5 #[] w fun e w' => e = .returned (.bool true) ∧ Below w.heap.size w w' := by
  go_enter Try.func5, Try.ntmps5
  go_wp2_with fail
  refine (useOf_any 0 w).mono ?_; rintro e w1 ⟨A1, n1, c1, rfl, hr1, hb1⟩
  have hq := joinU_any _ 2 2 _ _ (ls2_new hr1 UsesV.nil) (by omega) known_av
  rw [known_am, if_neg (by simp), known_a] at hq
  have Hq := Lib.hid hq
  have hbx := hb1.trans ((below_box (w := w1) (Obj.cells #[.slice A1 n1 c1, .slice none 0 0] 25)).mono hb1.size)
  clear hr1 hb1 hq
  go_wp2_with fail
  refine Hq.out.mono ?_; rintro e w2 ⟨Aa, na, ca, rfl, ha, hb2⟩
  have hbel := hbx.trans (hb2.mono hbx.size)
  clear hbx hb2 Hq
  go_wp2_with fail
  refine (useOf_any 0 w2).mono ?_; rintro e w3 ⟨A3, n3, c3, rfl, hr3, hb3⟩
  replace ha := (ha.below hb3).more hb3.size
  replace hbel := hbel.trans (hb3.mono hbel.size)
  clear hb3
  have hq := scaleU_yes 0 4 _ _ _ _ w3 hr3 (by decide +kernel) (by decide +kernel)
  rw [known_b] at hq
  have Hq := Lib.hid hq
  clear hq hr3
  go_wp2_with fail
  refine Hq.out.mono ?_; rintro e w4 ⟨Ab, nb, cb, rfl, hb, hb4⟩
  replace ha := (ha.below hb4).more hb4.size
  replace hbel := hbel.trans (hb4.mono hbel.size)
  clear hb4 Hq
  go_wp2_with fail
  refine (useOf_any 0 w4).mono ?_; rintro e w5 ⟨A5, n5, c5, rfl, hr5, hb5⟩
  replace ha := (ha.below hb5).more hb5.size
  replace hb := (hb.below hb5).more hb5.size
  replace hbel := hbel.trans (hb5.mono hbel.size)
  clear hb5
  have hq := times_yes none 0 0 ⟨true, 0, []⟩ _ _ _ _ w5 RdI.nil hr5 (by decide +kernel) (by decide +kernel)
  rw [known_c] at hq
  have Hq := Lib.hid hq
  clear hq hr5
  go_wp2_with fail
  refine Hq.out.mono ?_; rintro e w6 ⟨Ac, nc, cc, rfl, hc, hb6⟩
  replace ha := (ha.below hb6).more hb6.size
  replace hb := (hb.below hb6).more hb6.size
  replace hbel := hbel.trans (hb6.mono hbel.size)
  clear hb6 Hq
  go_wp2_with fail
  refine (one_any_u _ _ _ _ _).mono ?_; rintro e w7 ⟨rfl, hb7⟩
  go_wp2_with fail
  refine (one_any_u _ _ _ _ _).mono ?_; rintro e w8 ⟨rfl, hb8⟩
  replace hb8 := hb7.trans (hb8.mono hb7.size)
  replace ha := (ha.below hb8).more hb8.size
  replace hb := (hb.below hb8).more hb8.size
  replace hc := (hc.below hb8).more hb8.size
  replace hbel := hbel.trans (hb8.mono hbel.size)
  clear hb7 hb8
  go_wp2_with fail
  have hb9 := below_box (w := w8) (Obj.cells #[.bool false, .int .u8 1, .slice none 0 0, .bool false, .int .u8 1, .slice none 0 0] 37)
  have hk9 := blk_new w8 #[.bool false, .int .u8 1, .slice none 0 0, .bool false, .int .u8 1, .slice none 0 0] 37
  have ht9 := terms2u (x := ⟨false, 1, []⟩) (y := ⟨false, 1, []⟩) hk9 hk9.lt RdI.nil RdI.nil
  refine (used_any _ 2 2 _ _ ht9 (by omega)).mono ?_; rintro e w10 ⟨A10, n10, c10, rfl, hr10, hb10⟩
  replace hb10 := hb9.trans (hb10.mono hb9.size)
  replace ha := (ha.below hb10).more hb10.size
  replace hb := (hb.below hb10).more hb10.size
  replace hc := (hc.below hb10).more hb10.size
  replace hbel := hbel.trans (hb10.mono hbel.size)
  clear hb9 hk9 ht9 hb10
  have hq := take_yes 1 _ _ _ _ w10 hr10 (by decide +kernel) (by omega)
  rw [known_t, known_l] at hq
  have Hq := Lib.hid hq
  clear hq hr10
  go_wp2_with fail
  refine Hq.out.mono ?_; rintro e w11 ⟨At, nt, ct, Al, nl, cl, rfl, hrt, hl, hb11⟩
  replace ha := (ha.below hb11).more hb11.size
  replace hb := (hb.below hb11).more hb11.size
  replace hc := (hc.below hb11).more hb11.size
  replace hbel := hbel.trans (hb11.mono hbel.size)
  clear hb11 Hq
  have hb12 := below_box (w := w11) (Obj.cells #[.bool false, .int .u8 1, .slice At nt ct] 37)
  have hk12 := blk_new w11 #[.bool false, .int .u8 1, .slice At nt ct] 37
  replace ha := (ha.below hb12).more hb12.size
  replace hb := (hb.below hb12).more hb12.size
  replace hc := (hc.below hb12).more hb12.size
  replace hl := (hl.below hb12).more hb12.size
  replace hrt := (hrt.below hb12).more hb12.size
  replace hbel := hbel.trans (hb12.mono hbel.size)
  clear hb12
  go_wp2_with fail
  obtain ⟨W, hW⟩ : ∃ W, w11.alloc (Obj.cells #[.bool false, .int .u8 1, .slice At nt ct] 37) = W := ⟨_, rfl⟩
  rw [hW] at ha hb hc hl hrt hbel hk12 ⊢
  clear hW
  have hg := hk12.lt
  have t0 : W.cell? ⟨w11.heap.size, 0, none⟩ = some (.bool false) := hk12.cell 0
  have t1 : W.cell? ⟨w11.heap.size, 1, none⟩ = some (.int .u8 1) := hk12.cell 1
  have t2 : W.cell? ⟨w11.heap.size, 2, none⟩ = some (.slice At nt ct) := hk12.cell 2
  clear hk12
  generalize w11.heap.size = g at hg t0 t1 t2 ⊢
  have hbS : Below W.heap.size W W.drew := (Below.refl _ _).drew
  have Ha := Lib.hid ha
  have Hb := Lib.hid hb
  have Hc := Lib.hid hc
  have Hl := Lib.hid hl
  have Hrt := Lib.hid hrt
  have Hbel := Lib.hid hbel
  clear ha hb hc hl hrt hbel
  have st0 := trivial
  go_region_held3 (fun w' => w'.cell? ⟨g, 0, none⟩ = some (.bool false) ∧ w'.cell? ⟨g, 1, none⟩ = some (.int .u8 1) ∧ w'.cell? ⟨g, 2, none⟩ = some (.slice At nt ct))
    (first | go_keep | exact ⟨(hbS.cell (p := ⟨g, 0, none⟩) hg).trans t0, (hbS.cell (p := ⟨g, 1, none⟩) hg).trans t1, (hbS.cell (p := ⟨g, 2, none⟩) hg).trans t2⟩)
    ((first
      | (go_at_call 9; clear st0; have st1 := trivial; refine (worksU_any _).mono ?_; rintro e wx ⟨rfl, hbx⟩; replace hbS := hbS.trans (hbx.mono hbS.size); clear hbx)
      | (go_at_call 23; clear st1; have st2 := trivial; refine (one_in _ _ _ _ W _ hbS).mono ?_; rintro e wx ⟨rfl, hbx⟩; replace hbS := hbx; clear hbx)
      | (go_at_call 22; clear st2; have st3 := trivial; refine (used1_any 2 none 0 0 [] W _ hbS RdI.nil).mono ?_; rintro e wx ⟨A20, n20, c20, rfl, hr20, hbx⟩; replace hbS := hbx; clear hbx)
      | (go_at_call 18; clear st3; have st4 := trivial; refine (same_in Ha.out hr20 hbS).mono ?_; rintro e wx ⟨rfl, hbx⟩; replace hbS := hbx; clear hbx hr20)
      | (go_at_call 23; clear st4; have st5 := trivial; refine (one4_in _ W _ hbS).mono ?_; rintro e wx ⟨rfl, hr4, hbx⟩; replace hbS := hbx; clear hbx)
      | (go_at_call 22; clear st5; have st6 := trivial; refine (used1_any 1 _ 1 1 [4] W _ hbS hr4).mono ?_; rintro e wx ⟨A20, n20, c20, rfl, hr20, hbx⟩; replace hbS := hbx; clear hbx hr4)
      | (go_at_call 18; clear st6; have st7 := trivial; refine (same_in Hb.out hr20 hbS).mono ?_; rintro e wx ⟨rfl, hbx⟩; replace hbS := hbx; clear hbx hr20)
      | (go_at_call 23; clear st7; have st8 := trivial; refine (one_in _ _ _ _ W _ hbS).mono ?_; rintro e wx ⟨rfl, hbx⟩; replace hbS := hbx; clear hbx)
      | (go_at_call 22; clear st8; have st9 := trivial; refine (used1_any 2 none 0 0 [] W _ hbS RdI.nil).mono ?_; rintro e wx ⟨A20, n20, c20, rfl, hr20, hbx⟩; replace hbS := hbx; clear hbx)
      | (go_at_call 18; clear st9; have st10 := trivial; refine (same_in Hc.out hr20 hbS).mono ?_; rintro e wx ⟨rfl, hbx⟩; replace hbS := hbx; clear hbx hr20)
      | (go_at_call 23; clear st10; have st11 := trivial; refine (one_in _ _ _ _ W _ hbS).mono ?_; rintro e wx ⟨rfl, hbx⟩; replace hbS := hbx; clear hbx)
      | (go_at_call 24; clear st11; have st12 := trivial; refine (same_any (.agg #[.bool false, .int .u8 1, .slice At nt ct]) (.agg #[.bool false, .int .u8 1, .slice none 0 0]) ⟨false, 1, []⟩ ⟨false, 1, []⟩ _ _ _ ⟨At, nt, ct, rfl, Hrt.out.below hbS⟩ ⟨none, 0, 0, rfl, RdI.nil (B := 0)⟩ hbS.size (Nat.zero_le _)).mono ?_; rintro e wx ⟨rfl, hbx⟩; replace hbS := hbS.trans (hbx.mono hbS.size); clear hbx)
      | (go_at_call 19; clear st12; have st13 := trivial; refine (useOf_any 0 _).mono ?_; rintro e wx ⟨A20, n20, c20, rfl, hr20, hbx⟩; replace hbS := hbS.trans (hbx.mono hbS.size); clear hbx)
      | (go_at_call 18; clear st13; have st14 := trivial; refine (same_in Hl.out hr20 hbS).mono ?_; rintro e wx ⟨rfl, hbx⟩; replace hbS := hbx; clear hbx hr20)
      | (go_at_call 19; clear st14; have st15 := trivial; refine (useOf_any (-1) _).mono ?_; rintro e wx ⟨A20, n20, c20, rfl, hr20, hbx⟩; replace hbS := hbS.trans (hbx.mono hbS.size); obtain rfl : n20 = 0 := hr20.len.symm; clear hbx hr20)
      | (go_at_call 19; clear st15; have st16 := trivial; refine (useOf_any 1048576 _).mono ?_; rintro e wx ⟨A21, n21, c21, rfl, hr21, hbx⟩; replace hbS := hbS.trans (hbx.mono hbS.size); obtain rfl : n21 = 0 := hr21.len.symm; clear hbx hr21)))
  go_wp2_with fail
  go_ret
  exact ⟨rfl, Hbel.out.trans (hbS.mono Hbel.out.size)⟩

/-! ### the row's step -/
namespace usesKnown
set_option maxRecDepth 100000 in
theorem lifted (os : Os) (started : os.Started) (H : Type) (enc : TypeId × Value → H) :
    ReturnsInHanded {} Try.checked os 5 .any (Rows.usesKnownSpec.pre6 enc Try.prog Try.f5 Rows.usesKnownRow.domain false) (Rows.usesKnownSpec.post enc Try.prog Try.f5 false true false false) := by
  refine returnsInHanded_of_change_sized (C := Try.checked) own started (by kernel_rfl) Try.func5
    (ChangeSpec.witness6 (enc := enc) (C := Try.checked) false ⟨#[], #[], []⟩ 8 (by kernel_rfl) (by kernel_rfl) (by kernel_rfl) (by kernel_rfl)) ?_
  intro W base args ds gs before hval0 hW hcnd hsz0 _
  have hsz : (DataW.weightsEach Try.prog (Try.f5.params.toList ++ Rows.usesKnownSpec.plain.varTypes Try.prog) (ds ++ gs)).all (· ≤ reachBytes) = true := hsz0
  have hval : ∀ (j : Nat) t v, Try.f5.params[j]? = some t → args[j]? = some v → Value.okWide Try.prog W .any base t v := hval0
  have hW' := hW
  obtain ⟨p, q, hA0, hV, rfl, hfz, hnd⟩ := hW
  have hA : DataW.TrodAll enc Try.prog W 0 (fun _ => true) true Try.f5.params.toList args.toList ds p := hA0
  rw [Try.params5] at hA hval hsz
  obtain ⟨hargs, rfl, rfl⟩ := trodAll_nil hA
  obtain rfl : args = #[] := by cases args; simp_all
  obtain ⟨rfl, rfl⟩ := trodVars_none hV
  refine (walk_usesKnown (w := W) ).mono fun e W' ⟨he, bel⟩ => ?_
  subst he
  exact ⟨_, rfl, law_post laidOut (by kernel_rfl) rfl rfl Try.underlying4 hW' rfl rfl rfl bel⟩
theorem over : Rows.usesKnownRow.holds Try.pinned (OpenSpec.ofChange Rows.usesKnownSpec) :=
  OpenClaim.holds_of_wide 5 Try.f5 rfl rfl rfl rfl rfl rfl rfl ⟨rfl, rfl, rfl, rfl, rfl⟩ rfl rfl rfl rfl rfl (by kernel_rfl) Try.func5 (by kernel_rfl)
    (of_decide_eq_true (by kernel_rfl)) (by unfold Func.isWrapper; first | (rw [if_pos (by decide +kernel)]; kernel_rfl) | (rw [if_neg (by decide +kernel)]; exact ⟨rfl, rfl⟩))
    (fun os started H enc _ => lifted os started H enc)
/-- the statement -/
theorem proved : Rows.UsesKnownSaid := over
#print axioms proved
end usesKnown
end Go.Proofs.Ytimlbpjdgnapoaa
