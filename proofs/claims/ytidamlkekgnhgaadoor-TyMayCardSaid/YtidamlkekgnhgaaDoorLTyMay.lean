/- TyMay holds: of any two types how many nodes, whether they may be, whether they are the same. Conditions: the variables that the row lists are laid as the program's text lays them. -/
import Derived.Test.YtidamlkekgnhgaaDoorLawE
import Derived.Test.YtidamlkekgnhgaaDoorRowH
namespace Go.Proofs.YtidamlkekgnhgaaDoor
set_option linter.unusedVariables false
set_option linter.unusedSimpArgs false
open Go.ChangeShapes Go.WideShapes Go.ChangeAt Go.RowKit

set_option maxRecDepth 100000 in
set_option maxHeartbeats 4000000 in
theorem walk_tyMay {H : Type} {d0 d1 : DataW H} {w : World} (ht : Tab w) (v0 : Value) (h0 : TyB w v0 d0) (v1 : Value) (h1 : TyB w v1 d1) :
    Calls Tryd.prog 4 #[v0, v1] w fun e w' => e = .returned (.bool true) ∧ Below w.heap.size w w' := by
  obtain ⟨a, A, m, cp, rfl, ha, _⟩ := h0
  obtain ⟨b, A', m', cp', rfl, hb, _⟩ := h1
  obtain ⟨W, h2⟩ := two_new a b A m cp A' m' cp' w ha hb
  obtain ⟨r, hr⟩ : ∃ r, greatB [a, b] = r := ⟨_, rfl⟩
  have hg := great_at hr _ _ _ W h2.row
  have Hg := Lib.hid hg
  have H2 := Lib.hid h2
  have Heq := Lib.hid h2.eq
  have Ht := Lib.hid ht
  have hsz : W.heap.size = w.heap.size + 1 + 1 + 1 := h2.size
  clear hg h2 ht ha hb
  go_enter Tryd.func4, Tryd.ntmps4
  go_wp2_with fail
  rw [Heq.out]
  refine Hg.out.mono ?_; rintro e w1 ⟨rfl, hb1⟩
  have hw1 := H2.out.bel.trans (hb1.mono H2.out.bel.size)
  cases r with
  | true =>
    clear hr
    go_wp2_with fail
    refine (worksTy_any w1 (Ht.out.below hw1)).mono ?_; rintro e w2 ⟨rfl, hb2⟩
    go_wp2_with fail
    go_ret
    exact ⟨rfl, hw1.trans (hb2.mono hw1.size)⟩
  | false =>
    have ga := H2.out.ba.below hb1 H2.out.ba.lt
    have gb := H2.out.bb.below hb1 H2.out.bb.lt
    have hta := H2.out.ta.fresh hb1
    have htb := H2.out.tb.fresh hb1
    have Hw1 := Lib.hid hw1
    have Hta := Lib.hid hta
    have Htb := Lib.hid htb
    have Ht1 := Lib.hid (Ht.out.below hw1)
    obtain ⟨s, hs⟩ : ∃ s, sizeW a = s := ⟨_, rfl⟩
    obtain ⟨y, hy⟩ : ∃ y, mayTE a = y := ⟨_, rfl⟩
    obtain ⟨q, hq⟩ : ∃ q, sameT a b = q := ⟨_, rfl⟩
    have hqa : sameT a a = true := (sameT_iff a a).2 rfl
    have Hs := Lib.hid hs
    have Hy := Lib.hid hy
    have Hq := Lib.hid hq
    have Hqa := Lib.hid hqa
    have a0 := ga.cell 0
    have a1 := ga.cell 1
    have a2 := ga.cell 2
    have a3 := ga.cell 3
    have a4 := ga.cell 4
    have b0 := gb.cell 0
    have b1 := gb.cell 1
    have b2 := gb.cell 2
    have b3 := gb.cell 3
    have b4 := gb.cell 4
    have ka0 := fun d os => cell_regrown a0 d os
    have ka1 := fun d os => cell_regrown a1 d os
    have ka2 := fun d os => cell_regrown a2 d os
    have ka3 := fun d os => cell_regrown a3 d os
    have ka4 := fun d os => cell_regrown a4 d os
    have kb0 := fun d os => cell_regrown b0 d os
    have kb1 := fun d os => cell_regrown b1 d os
    have kb2 := fun d os => cell_regrown b2 d os
    have kb3 := fun d os => cell_regrown b3 d os
    have kb4 := fun d os => cell_regrown b4 d os
    clear a0 a1 a2 a3 a4 b0 b1 b2 b3 b4 ga gb hta htb hw1 hb1 hs hy hq hqa hr Hg
    go_wp2_with fail
    refine wp_region_quiet_below (by kernel_rfl) (by kernel_rfl) ?_
    repeat (go_big_quiet_step ((first | (go_at_call 17; exact Calls.regrown_of (size_at Hs.out _ _ _ _ (Hta.out.regrown _ _))) | (go_at_call 18; exact Calls.regrown_of (refSize_at Hs.out _ _ _ _ (Hta.out.regrown _ _))) | (go_at_call 19; exact Calls.regrown_of (tyMay_at Hy.out _ _ _ _ (Hta.out.regrown _ _))) | (go_at_call 20; exact Calls.regrown_of (refTyMay_at Hy.out _ _ _ _ (Hta.out.regrown _ _))) | (go_at_call_of 21 (Value.agg #[.int .u8 b.k, .int .i64 b.n, .int .i64 b.v, .int .u8 b.c, .slice A' m' cp']); exact Calls.regrown_of (same_at Hq.out _ _ _ _ _ _ _ (Hta.out.regrown _ _) (Htb.out.regrown _ _))) | (go_at_call 22; exact Calls.regrown_of (refSame_at Hq.out _ _ _ _ _ _ _ (Hta.out.regrown _ _) (Htb.out.regrown _ _))) | (go_at_call 21; exact Calls.regrown_of (same_at Hqa.out _ _ _ _ _ _ _ (Hta.out.regrown _ _) (Hta.out.regrown _ _))) | (go_at_call 10; exact Calls.regrown_of (worksTy_any _ (Ht1.out.regrown _ _))))))
    refine wpQuiet_nil ?_
    intro _ hw'
    obtain ⟨⟨dq, osq⟩, hw''⟩ := hw'
    subst hw''
    go_wp2_with fail
    go_ret
    exact ⟨rfl, Hw1.out.trans ((below_regrown _ _ _).mono Hw1.out.size)⟩

/-! ### the row's step -/
namespace tyMay
set_option maxRecDepth 100000 in
theorem lifted (os : Os) (started : os.Started) (H : Type) (enc : TypeId × Value → H) :
    ReturnsInHanded {} Tryd.checked os 4 .any (fun w args => (Rows.tyMaySpec.pre enc Tryd.prog Tryd.f4 [] false w args ∧ laidMetH Tryd.prog laid3 w) ∧ sizedMet enc Tryd.prog Tryd.f4 (OpenSpec.ofChange Rows.tyMaySpec) false w args) (Rows.tyMaySpec.post enc Tryd.prog Tryd.f4 false true false false) := by
  refine returnsInHanded_of_change_and (C := Tryd.checked) (X := fun w _ => laidMetH Tryd.prog laid3 w) (fun _ _ _ hh h => h.of_heap hh) own started (by kernel_rfl) Tryd.func4
    (ChangeSpec.witness_shaped (enc := enc) (C := Tryd.checked) (os := os) (X := fun w _ => laidMetH Tryd.prog laid3 w) false (World.doorLaid Tryd.prog 400 os) #[.agg #[.int .u8 0, .int .i64 0, .int .i64 0, .int .u8 0, .slice none 0 0], .agg #[.int .u8 0, .int .i64 0, .int .i64 0, .int .u8 0, .slice none 0 0]] 8 rfl (World.shaped_of_RefB (by kernel_rfl) (by kernel_rfl)) (by kernel_rfl) (by kernel_rfl) (by kernel_rfl) (door_met os _)) ?_
  intro W base args ds gs before hval0 hW hcnd hsz0 hL _
  have hsz : (DataW.weightsEach Tryd.prog (Tryd.f4.params.toList ++ Rows.tyMaySpec.plain.varTypes Tryd.prog) (ds ++ gs)).all (· ≤ reachBytes) = true := hsz0
  have hval : ∀ (j : Nat) t v, Tryd.f4.params[j]? = some t → args[j]? = some v → Value.okWide Tryd.prog W .any base t v := hval0
  have hW' := hW
  obtain ⟨p, q, hA0, hV, rfl, hfz, hnd⟩ := hW
  have hA : DataW.TrodAll enc Tryd.prog W 0 (fun _ => true) true Tryd.f4.params.toList args.toList ds p := hA0
  rw [Tryd.params4] at hA hval hsz
  obtain ⟨v0, vs0, d0, ds0, p0, q0, hargs, rfl, rfl, h0, r_0⟩ := trodAll_cons hA
  obtain ⟨v1, vs1, d1, ds1, p1, q1, rfl, rfl, rfl, h1, r_1⟩ := trodAll_cons r_0
  obtain ⟨rfl, rfl, rfl⟩ := trodAll_nil r_1
  obtain rfl : args = #[v0, v1] := by cases args; simp_all
  obtain ⟨rfl, rfl⟩ := trodVars_none hV
  have w0 := rd_ty (hval 0 27 v0 rfl rfl) h0
  have w1 := rd_ty (hval 1 27 v1 rfl rfl) h1
  refine (walk_tyMay (w := W) (tab_of_laid hL) v0 w0 v1 w1).mono fun e W' ⟨he, bel⟩ => ?_
  subst he
  exact ⟨_, rfl, law_post laidOut (by kernel_rfl) rfl rfl Tryd.underlying4 hW' rfl rfl rfl bel⟩
theorem over : Rows.tyMayRow.holds Tryd.pinned (OpenSpec.ofChange Rows.tyMaySpec) :=
  OpenClaim.holds_of_wide 4 Tryd.f4 rfl rfl rfl rfl rfl rfl rfl ⟨rfl, rfl, rfl, rfl, rfl⟩ rfl rfl rfl rfl rfl (by kernel_rfl) Tryd.func4 (by kernel_rfl)
    (of_decide_eq_true (by kernel_rfl)) (by unfold Func.isWrapper; first | (rw [if_pos (by decide +kernel)]; kernel_rfl) | (rw [if_neg (by decide +kernel)]; exact ⟨rfl, rfl⟩))
    (fun os started H enc _ => lifted os started H enc)
theorem card : Rows.TyMayCardSaid :=
  Claim7.holds_tied_plain_at .later [] [.data, .data, .data] true Rows.tyMayCard.stood.harness false
    over (fun _ h => by cases h) (by kernel_rfl) (fun _ h => by cases h) tyMay_row_tie rfl ⟨rfl, rfl⟩ (by kernel_rfl) rfl
    (fun f fn hf hfn => by
      obtain rfl : f = 4 := Option.some.inj ((show Tryd.prog.funcNamed "usufruct/usufructlaw06.TyMay" = some 4 by kernel_rfl).symm.trans hf) |>.symm
      obtain rfl : fn = Tryd.f4 := (Option.some.inj (Tryd.func4.symm.trans hfn)).symm
      exact ⟨by kernel_rfl, fun j t ht => by
        rw [Tryd.params4] at ht
        have hm : t ∈ [27] := by simpa using Array.mem_of_getElem? ht
        have hall : ([27].all fun u => !Tryd.prog.wantsStandIn u) = true := by kernel_rfl
        exact (show Tryd.prog.wantsStandIn t = false by simpa using List.all_eq_true.1 hall t hm)⟩)
    (by kernel_rfl)
/-- the statement -/
theorem proved : Rows.TyMayCardSaid := card
#print axioms proved
end tyMay
end Go.Proofs.YtidamlkekgnhgaaDoor
