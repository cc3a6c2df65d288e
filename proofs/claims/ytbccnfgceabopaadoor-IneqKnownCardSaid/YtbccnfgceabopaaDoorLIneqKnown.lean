/- IneqKnown holds: the document's examples of what must hold. Conditions: the variables that the row lists are laid as the program's text lays them. -/
import Derived.Test.YtbccnfgceabopaaDoorIneqW
import Derived.Test.YtbccnfgceabopaaDoorRowD
namespace Go.Proofs.YtbccnfgceabopaaDoor
set_option linter.unusedVariables false
set_option linter.unusedSimpArgs false
open Go.ChangeShapes Go.WideShapes Go.ChangeAt Go.RowKit

theorem tk_a : textX ⟨0, 2, 1, -1⟩ = ⟨#[63, 32, 60, 61, 32, 49]⟩ := by
  refine ba_ext ?_
  unfold textX textQ
  rw [ba_append, ba_append, show rightL 1 (-1) = [mtext 1] from rfl, joinB1]
  rfl
theorem tk_b : textX ⟨3, 0, 2, -1⟩ = ⟨#[109, 51, 32, 60, 61, 32, 63]⟩ := by
  refine ba_ext ?_
  unfold textX textQ
  rw [ba_append, ba_append, show rightL 2 (-1) = [mtext 2] from rfl, joinB1, show leftS 3 0 = mname 3 from rfl, t_name3]
  rfl
theorem tk_c : textQ 3 0 2 5 = ⟨#[109, 51, 32, 60, 61, 32, 63, 124, 109, 53]⟩ := by
  refine ba_ext ?_
  unfold textQ
  rw [ba_append, ba_append, show rightL 2 5 = [mtext 2, mname 5] from rfl, joinB2, show leftS 3 0 = mname 3 from rfl, t_name3, t_name5]
  rfl

theorem below_at (tv : Value) (t : TermD) (g mv mc : Int) (l : List ByteArray) (hl : (fitsQ t g mv mc).map textX = l) (w : World) (B : Nat) (hv : TermV w B tv t) (hB : B ≤ w.heap.size) (h : fitsB t g mv mc = true) (hbig : t.vars.length ≤ 10000) (ht : Tab w) :
    Calls Tryd.prog 12 #[tv, .int .u8 g, .agg #[.int .i64 mv, .int .u8 mc]] w fun e w' => ∃ A n c, e = .returned (.tuple #[.slice A n c, .int .i64 0]) ∧ RdS w' w'.heap.size A n c l ∧ Below w.heap.size w w' := by
  rw [← hl]
  exact below_yes tv t g mv mc w B hv hB h hbig ht

set_option maxRecDepth 100000 in
set_option maxHeartbeats 1000000 in
theorem walk_ineqKnown (w : World) (ht : Tab w) :
    Calls Tryd.prog 3 #[] w fun e w' => e = .returned (.bool true) ∧ Below w.heap.size w w' := by
  have hbx := below_box (w := w) (Obj.cells #[.int .i64 3] 3)
  have hr : RdI .i64 (w.alloc (Obj.cells #[.int .i64 3] 3)) (w.heap.size + 1) (some ⟨w.heap.size, 0, none⟩) 1 1 [3] := ⟨Rd.new w [.int .i64 3] 3, Nat.le_refl _, by unfold maxLen; omega⟩
  have hk := blk_new (w.alloc (Obj.cells #[.int .i64 3] 3)) #[.bool false, .int .u8 1, .slice (some ⟨w.heap.size, 0, none⟩) 1 1] 25
  rw [show (w.alloc (Obj.cells #[.int .i64 3] 3)).heap.size = w.heap.size + 1 by simp] at hk
  have hb1 := hbx.trans ((below_box (w := w.alloc (Obj.cells #[.int .i64 3] 3)) (Obj.cells #[.bool false, .int .u8 1, .slice (some ⟨w.heap.size, 0, none⟩) 1 1] 25)).mono (by simp))
  have hr1 := hr.below ((below_box (w := w.alloc (Obj.cells #[.int .i64 3] 3)) (Obj.cells #[.bool false, .int .u8 1, .slice (some ⟨w.heap.size, 0, none⟩) 1 1] 25)).mono (by simp))
  have Ht := Lib.hid ht
  clear ht hr hbx
  go_enter Tryd.func3, Tryd.ntmps3
  go_wp2_with fail
  generalize (w.alloc (Obj.cells #[.int .i64 3] 3)).alloc (Obj.cells #[.bool false, .int .u8 1, .slice (some ⟨w.heap.size, 0, none⟩) 1 1] 25) = w1 at hk hb1 hr1 ⊢
  have hlt1 := hk.lt
  refine (below_at (.agg #[.bool false, .int .u8 1, .slice (some ⟨w.heap.size, 0, none⟩) 1 1]) ⟨false, 1, [3]⟩ 2 3 0 [] (by decide +kernel) w1 _ ⟨_, _, _, rfl, hr1⟩ (by omega) (by decide +kernel) (by decide) (Ht.out.below hb1)).mono ?_
  rintro e w2 ⟨A2, n2, c2, rfl, hs2, hb2⟩
  obtain rfl : 0 = n2 := hs2.len
  have hk2 := hk.below hb2 hlt1
  have hw2 := hb1.trans (hb2.mono hb1.size)
  have hr2 := hr1.below (hb2.mono (by omega))
  clear hs2 hb2 hb1 hk hr1
  go_wp2_with fail
  refine (below_at (.agg #[.bool true, .int .u8 0, .slice none 0 0]) ⟨true, 0, []⟩ 1 0 1 [⟨#[63, 32, 60, 61, 32, 49]⟩] (by rw [show fitsQ ⟨true, 0, []⟩ 1 0 1 = [⟨0, 2, 1, -1⟩] from by decide +kernel, List.map_cons, tk_a]; rfl) w2 _ ⟨_, _, _, rfl, RdI.nil (B := 0)⟩ (by omega) (by decide +kernel) (by decide) (Ht.out.below hw2)).mono ?_
  rintro e w3 ⟨A3, n3, c3, rfl, hs3, hb3⟩
  have hk3 := hk2.below hb3 hk2.lt
  have hw3 := hw2.trans (hb3.mono hw2.size)
  have hr3 := hr2.below (hb3.mono (by have := hk2.lt; omega))
  have z0 : w3.cell? ⟨w.heap.size + 1, 0, none⟩ = some (.bool false) := hk3.cell 0
  have z1 : w3.cell? ⟨w.heap.size + 1, 1, none⟩ = some (.int .u8 1) := hk3.cell 1
  have z2 : w3.cell? ⟨w.heap.size + 1, 2, none⟩ = some (.slice (some ⟨w.heap.size, 0, none⟩) 1 1) := hk3.cell 2
  have Hs3 := Lib.hid hs3
  clear hs3 hb3 hw2 hk2 hr2
  go_wp2_with fail
  refine (below_at (.agg #[.bool false, .int .u8 1, .slice (some ⟨w.heap.size, 0, none⟩) 1 1]) ⟨false, 1, [3]⟩ 2 0 1 [⟨#[109, 51, 32, 60, 61, 32, 63]⟩] (by rw [show fitsQ ⟨false, 1, [3]⟩ 2 0 1 = [⟨3, 0, 2, -1⟩] from by decide +kernel, List.map_cons, tk_b]; rfl) w3 _ ⟨_, _, _, rfl, hr3⟩ (by have := hk3.lt; omega) (by decide +kernel) (by decide) (Ht.out.below hw3)).mono ?_
  rintro e w4 ⟨A4, n4, c4, rfl, hs4, hb4⟩
  have hw4 := hw3.trans (hb4.mono hw3.size)
  have Hs3' := Lib.hid (Hs3.out.fresh hb4)
  have Hs4 := Lib.hid hs4
  clear Hs3 hs4 hb4 hw3 hk3 hr3 z0 z1 z2
  go_wp2_with fail
  refine (worksQ_any w4 (Ht.out.below hw4)).mono ?_; rintro e w5 ⟨rfl, hb5⟩
  have hw5 := hw4.trans (hb5.mono hw4.size)
  have hbS := below_box (w := w5) (Obj.cells #[.string ⟨#[63, 32, 60, 61, 32, 49]⟩] 9)
  have hn5 := RdS.new w5 [⟨#[63, 32, 60, 61, 32, 49]⟩] 9 (by decide)
  have hq5 := eqS_any ((Hs3'.out.fresh hb5).fresh hbS) hn5 true (by simp)
  have Hq5 := Lib.hid hq5
  have Hs5 := Lib.hid ((Hs4.out.fresh hb5).fresh hbS)
  have hwS := hw5.trans (hbS.mono hw5.size)
  clear hq5 hn5 hb5 Hs4 Hs3' hw4
  go_wp2_with fail
  refine Hq5.out.mono ?_; rintro e w6 ⟨rfl, hb6⟩
  have hw6 := hwS.trans (hb6.mono hwS.size)
  have hbT := below_box (w := w6) (Obj.cells #[.string ⟨#[109, 51, 32, 60, 61, 32, 63]⟩] 9)
  have hn6 := RdS.new w6 [⟨#[109, 51, 32, 60, 61, 32, 63]⟩] 9 (by decide)
  have hq6 := eqS_any ((Hs5.out.fresh hb6).fresh hbT) hn6 true (by simp)
  have Hq6 := Lib.hid hq6
  have hwT := hw6.trans (hbT.mono hw6.size)
  clear hq6 hn6 hb6 Hs5 Hq5 hwS hw5 hbS
  go_wp2_with fail
  refine Hq6.out.mono ?_; rintro e w7 ⟨rfl, hb7⟩
  have hw7 := hwT.trans (hb7.mono hwT.size)
  clear Hq6 hb7 hwT hw6 hbT
  go_wp2_with fail
  refine (ineqText_any 3 0 2 5 w7 (Ht.out.below hw7) (by decide) (by decide)).mono ?_; rintro e w8 ⟨rfl, hb8⟩
  rw [tk_c]
  have hw8 := hw7.trans (hb8.mono hw7.size)
  go_wp2_with fail
  go_ret
  exact ⟨rfl, hw8⟩

/-! ### the row's step -/
namespace ineqKnown
set_option maxRecDepth 100000 in
theorem lifted (os : Os) (started : os.Started) (H : Type) (enc : TypeId × Value → H) :
    ReturnsInHanded {} Tryd.checked os 3 .any (fun w args => (Rows.ineqKnownSpec.pre enc Tryd.prog Tryd.f3 [] false w args ∧ laidMetH Tryd.prog laid3 w) ∧ sizedMet enc Tryd.prog Tryd.f3 (OpenSpec.ofChange Rows.ineqKnownSpec) false w args) (Rows.ineqKnownSpec.post enc Tryd.prog Tryd.f3 false true false false) := by
  refine returnsInHanded_of_change_and (C := Tryd.checked) (X := fun w _ => laidMetH Tryd.prog laid3 w) (fun _ _ _ hh h => h.of_heap hh) own started (by kernel_rfl) Tryd.func3
    (ChangeSpec.witness_shaped (enc := enc) (C := Tryd.checked) (os := os) (X := fun w _ => laidMetH Tryd.prog laid3 w) false (World.doorLaid Tryd.prog 400 os) #[] 8 rfl (World.shaped_of_RefB (by kernel_rfl) (by kernel_rfl)) (by kernel_rfl) (by kernel_rfl) (by kernel_rfl) (door_met os _)) ?_
  intro W base args ds gs before hval0 hW hcnd hsz0 hL _
  have hsz : (DataW.weightsEach Tryd.prog (Tryd.f3.params.toList ++ Rows.ineqKnownSpec.plain.varTypes Tryd.prog) (ds ++ gs)).all (· ≤ reachBytes) = true := hsz0
  have hval : ∀ (j : Nat) t v, Tryd.f3.params[j]? = some t → args[j]? = some v → Value.okWide Tryd.prog W .any base t v := hval0
  have hW' := hW
  obtain ⟨p, q, hA0, hV, rfl, hfz, hnd⟩ := hW
  have hA : DataW.TrodAll enc Tryd.prog W 0 (fun _ => true) true Tryd.f3.params.toList args.toList ds p := hA0
  rw [Tryd.params3] at hA hval hsz
  obtain ⟨hargs, rfl, rfl⟩ := trodAll_nil hA
  obtain rfl : args = #[] := by cases args; simp_all
  obtain ⟨rfl, rfl⟩ := trodVars_none hV
  refine (walk_ineqKnown (w := W) (tab_of_laid hL) ).mono fun e W' ⟨he, bel⟩ => ?_
  subst he
  exact ⟨_, rfl, law_post laidOut (by kernel_rfl) rfl rfl Tryd.underlying4 hW' rfl rfl rfl bel⟩
theorem over : Rows.ineqKnownRow.holds Tryd.pinned (OpenSpec.ofChange Rows.ineqKnownSpec) :=
  OpenClaim.holds_of_wide 3 Tryd.f3 rfl rfl rfl rfl rfl rfl rfl ⟨rfl, rfl, rfl, rfl, rfl⟩ rfl rfl rfl rfl rfl (by kernel_rfl) Tryd.func3 (by kernel_rfl)
    (of_decide_eq_true (by kernel_rfl)) (by unfold Func.isWrapper; first | (rw [if_pos (by decide +kernel)]; kernel_rfl) | (rw [if_neg (by decide +kernel)]; exact ⟨rfl, rfl⟩))
    (fun os started H enc _ => lifted os started H enc)
theorem card : Rows.IneqKnownCardSaid :=
  Claim7.holds_tied_plain_at .later [] [.data, .data, .data] true Rows.ineqKnownCard.stood.harness false
    over (fun _ h => by cases h) (by kernel_rfl) (fun _ h => by cases h) ineqKnown_row_tie rfl ⟨rfl, rfl⟩ (by kernel_rfl) rfl
    (fun f fn hf hfn => by
      obtain rfl : f = 3 := Option.some.inj ((show Tryd.prog.funcNamed "usufruct/usufructlaw03.IneqKnown" = some 3 by kernel_rfl).symm.trans hf) |>.symm
      obtain rfl : fn = Tryd.f3 := (Option.some.inj (Tryd.func3.symm.trans hfn)).symm
      exact ⟨by kernel_rfl, fun j t ht => by rw [Tryd.params3] at ht; simp at ht⟩)
    (by kernel_rfl)
/-- the statement -/
theorem proved : Rows.IneqKnownCardSaid := card
#print axioms proved
end ineqKnown
end Go.Proofs.YtbccnfgceabopaaDoor
