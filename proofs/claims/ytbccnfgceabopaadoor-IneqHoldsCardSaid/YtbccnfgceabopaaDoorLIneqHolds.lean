/- IneqHolds holds for every input: whether any inequalities may be, and the first one that does not hold under any assignment, are what the document says. Conditions: the variables that the row lists are laid as the program's text lays them. -/
import Derived.Test.YtbccnfgceabopaaDoorIneqW
import Derived.Test.YtbccnfgceabopaaDoorIneqF
import Derived.Test.YtbccnfgceabopaaDoorRowQ
import Derived.Test.YtbccnfgceabopaaDoorRowD
import Derived.BigQuiet
import Derived.Lib.QuietBelow
namespace Go.Proofs.YtbccnfgceabopaaDoor
set_option linter.unusedVariables false
set_option linter.unusedSimpArgs false
open Go.ChangeShapes Go.WideShapes Go.ChangeAt Go.RowKit

theorem textX_at {x : IneqD} (hx : mayX x = true) (s : ByteArray) (hs : textX x = s) (w : World) (ht : Tab w) :
    Calls Tryd.prog 15 #[.agg #[.int .i64 x.lv, .int .u8 x.lc, .int .u8 x.c, .int .i64 x.r]] w fun e w' => e = .returned (.string s) ∧ Below w.heap.size w w' := by
  have h := mayX_bounds hx
  rw [← hs]
  exact ineqText_any x.lv x.lc x.c x.r w ht (by omega) (by omega)
theorem refTextX_at {x : IneqD} (hx : mayX x = true) (s : ByteArray) (hs : textX x = s) (w : World) :
    Calls Tryd.prog 20 #[.agg #[.int .i64 x.lv, .int .u8 x.lc, .int .u8 x.c, .int .i64 x.r]] w fun e w' => e = .returned (.string s) ∧ Below w.heap.size w w' := by
  have h := mayX_bounds hx
  rw [← hs, show textX x = rtextQ x.lv x.lc x.c x.r from (textQ_eq hx).symm]
  exact refTextQ_any x.lv x.lc x.c x.r w (by omega) (by omega)


set_option maxRecDepth 100000 in
set_option maxHeartbeats 2000000 in
theorem walkA_ineqHolds (A : Option Addr) (n c : Nat) (xs : List IneqD) (A' : Option Addr) (n' c' : Nat) (asg : List Int) (w : World) (ht : Tab w) (hx : IneqsV w w.heap.size A n c xs) (ha : RdI .u8 w w.heap.size A' n' c' asg) :
    Calls Tryd.prog 4 #[.slice A n c, .slice A' n' c'] w fun e w' => e = .returned (.bool true) ∧ Below w.heap.size w w' := by
  have Ht := Lib.hid ht
  have Hl := Lib.hid hx.len
  have Hx := Lib.hid hx
  have Ha := Lib.hid ha
  clear ht hx ha
  by_cases hbig : 1000 < n
  · have hbg : decide ((1000 : Int) < n) = true := by simp; omega
    go_enter Tryd.func4, Tryd.ntmps4
    go_wp2_with fail
    refine (worksQ_any w Ht.out).mono ?_; rintro e w8 ⟨rfl, hb8⟩
    go_wp2_with fail
    go_ret
    exact ⟨rfl, hb8⟩
  · have hbg : decide ((1000 : Int) < n) = false := by simp; omega
    have hn : n ≤ 1000 := by omega
    clear hbig
    go_enter Tryd.func4, Tryd.ntmps4
    go_wp2_with fail
    refine (holds_any A n c xs A' n' c' asg w Hx.out Ha.out).mono ?_; rintro e w1 ⟨rfl, hb1⟩
    have hz1 := hb1.size
    have Hx1 := Lib.hid ((Hx.out.below hb1).more hz1)
    have Ha1 := Lib.hid ((Ha.out.below hb1).more hz1)
    have Hq := Lib.hid (refHolds_any A n c xs A' n' c' asg w1 Hx1.out Ha1.out)
    generalize (holdsAll asg xs).1 = q1 at Hq ⊢
    generalize (holdsAll asg xs).2 = q2 at Hq ⊢
    clear Ha1 Ha Hx
    go_wp2_with fail
    refine Hq.out.mono ?_; rintro e w2 ⟨rfl, hb2⟩
    have hw0 := hb1.trans (hb2.mono hz1)
    have Hx2 := Lib.hid ((Hx1.out.below hb2).more hb2.size)
    clear hb1 hb2 hz1 Hx1 Hq
    go_wp2_with fail
    go_loopg [29] n (fun gh i wr => ∃ k : Nat, k ≤ n ∧ gh = n - k ∧ i = .int .i64 k ∧ Below w2.heap.size w2 wr)
    case atStart => exact ⟨0, Nat.zero_le _, rfl, rfl, Below.refl _ _⟩
    case round =>
      obtain ⟨k, hk, rfl, rfl, hb⟩ := hrel
      by_cases hlk : k < n
      · have hk' : k < xs.length := by rw [Hl.out]; exact hlk
        obtain ⟨b, off, rfl, hbk, hcell⟩ := (Hx2.out.below hb).at_ (by omega)
        obtain ⟨e0, e1, e2, e3⟩ := hcell k hk'
        generalize xs[k] = x at e0 e1 e2 e3
        clear hcell
        cases hm : mayX x
        · have HM := Lib.hid (mayQE_no hm)
          have HR := Lib.hid hm
          clear hm
          have hbx := below_box (w := wr) (Obj.cells #[.int .i64 x.lv, .int .u8 x.lc, .int .u8 x.c, .int .i64 x.r] 36)
          have hX := blk_new wr #[.int .i64 x.lv, .int .u8 x.lc, .int .u8 x.c, .int .i64 x.r] 36
          have hbw := hb.trans (hbx.mono hb.size)
          have Htx := Lib.hid (Ht.out.below (hw0.trans (hbw.mono hw0.size)))
          go_wp2_with fail
          generalize wr.alloc (Obj.cells #[.int .i64 x.lv, .int .u8 x.lc, .int .u8 x.c, .int .i64 x.r] 36) = wx at hX hbx hbw Htx ⊢
          have z0 : wx.cell? ⟨wr.heap.size, 0, none⟩ = some (.int .i64 x.lv) := hX.cell 0
          have z1 : wx.cell? ⟨wr.heap.size, 1, none⟩ = some (.int .u8 x.lc) := hX.cell 1
          have z2 : wx.cell? ⟨wr.heap.size, 2, none⟩ = some (.int .u8 x.c) := hX.cell 2
          have z3 : wx.cell? ⟨wr.heap.size, 3, none⟩ = some (.int .i64 x.r) := hX.cell 3
          have kx0 := fun d os => cell_regrown z0 d os
          have kx1 := fun d os => cell_regrown z1 d os
          have kx2 := fun d os => cell_regrown z2 d os
          have kx3 := fun d os => cell_regrown z3 d os
          clear z0 z1 z2 z3 hX
          refine wp_region_quiet_below (by kernel_rfl) (by kernel_rfl) ?_
          repeat (go_big_quiet_step ((first | (go_at_call 18; exact Calls.regrown_of (mayQ_at HM.out _)) | (go_at_call 19; exact Calls.regrown_of (refMayQ_at HR.out _)))))
          refine wpQuiet_nil ?_
          intro _ hw'
          obtain ⟨⟨dq, osq⟩, hw''⟩ := hw'
          subst hw''
          go_wp2_with fail
          go_roundg (n - (k + 1))
          case measure => omega
          case rel => exact ⟨k + 1, by omega, rfl, by go_num, hbw.trans ((below_regrown _ _ _).mono hbw.size)⟩
        · have HM := Lib.hid (mayQE_yes hm)
          have HR := Lib.hid hm
          obtain ⟨s, hs⟩ : ∃ s, textX x = s := ⟨_, rfl⟩
          have Hs := Lib.hid hs
          clear hm hs
          have hbx := below_box (w := wr) (Obj.cells #[.int .i64 x.lv, .int .u8 x.lc, .int .u8 x.c, .int .i64 x.r] 36)
          have hX := blk_new wr #[.int .i64 x.lv, .int .u8 x.lc, .int .u8 x.c, .int .i64 x.r] 36
          have hbw := hb.trans (hbx.mono hb.size)
          have Htx := Lib.hid (Ht.out.below (hw0.trans (hbw.mono hw0.size)))
          go_wp2_with fail
          generalize wr.alloc (Obj.cells #[.int .i64 x.lv, .int .u8 x.lc, .int .u8 x.c, .int .i64 x.r] 36) = wx at hX hbx hbw Htx ⊢
          have z0 : wx.cell? ⟨wr.heap.size, 0, none⟩ = some (.int .i64 x.lv) := hX.cell 0
          have z1 : wx.cell? ⟨wr.heap.size, 1, none⟩ = some (.int .u8 x.lc) := hX.cell 1
          have z2 : wx.cell? ⟨wr.heap.size, 2, none⟩ = some (.int .u8 x.c) := hX.cell 2
          have z3 : wx.cell? ⟨wr.heap.size, 3, none⟩ = some (.int .i64 x.r) := hX.cell 3
          have kx0 := fun d os => cell_regrown z0 d os
          have kx1 := fun d os => cell_regrown z1 d os
          have kx2 := fun d os => cell_regrown z2 d os
          have kx3 := fun d os => cell_regrown z3 d os
          clear z0 z1 z2 z3 hX
          refine wp_region_quiet_below (by kernel_rfl) (by kernel_rfl) ?_
          repeat (go_big_quiet_step ((first | (go_at_call 18; exact Calls.regrown_of (mayQ_at HM.out _)) | (go_at_call 19; exact Calls.regrown_of (refMayQ_at HR.out _)) | (go_at_call 15; exact Calls.regrown_of (textX_at HR.out s Hs.out _ (Htx.out.below (below_regrown _ _ _)))) | (go_at_call 20; exact Calls.regrown_of (refTextX_at HR.out s Hs.out _)))))
          refine wpQuiet_nil ?_
          intro _ hw'
          obtain ⟨⟨dq, osq⟩, hw''⟩ := hw'
          subst hw''
          go_wp2_with fail
          go_roundg (n - (k + 1))
          case measure => omega
          case rel => exact ⟨k + 1, by omega, rfl, by go_num, hbw.trans ((below_regrown _ _ _).mono hbw.size)⟩
      · have hkn : k = n := by omega
        subst hkn
        go_wp2_with fail
        have hw3 := hw0.trans (hb.mono hw0.size)
        refine (worksQ_any wr (Ht.out.below hw3)).mono ?_; rintro e w8 ⟨rfl, hb8⟩
        go_wp2_with fail
        go_ret
        exact ⟨rfl, hw3.trans (hb8.mono hw3.size)⟩

theorem walk_ineqHolds (w : World) (ht : Tab w) (v1 : Value) (h1 : IneqsIn w v1) (v2 : Value) (h2 : MultsIn w v2) :
    Calls Tryd.prog 4 #[v1, v2] w fun e w' => e = .returned (.bool true) ∧ Below w.heap.size w w' := by
  obtain ⟨A, n, c, xs, rfl, hx, _⟩ := h1
  obtain ⟨A', n', c', asg, rfl, ha, _⟩ := h2
  exact walkA_ineqHolds A n c xs A' n' c' asg w ht hx ha

/-! ### the row's step -/
namespace ineqHolds
set_option maxRecDepth 100000 in
theorem lifted (os : Os) (started : os.Started) (H : Type) (enc : TypeId × Value → H) :
    ReturnsInHanded {} Tryd.checked os 4 .any (fun w args => (Rows.ineqHoldsSpec.pre enc Tryd.prog Tryd.f4 [] false w args ∧ laidMetH Tryd.prog laid3 w) ∧ sizedMet enc Tryd.prog Tryd.f4 (OpenSpec.ofChange Rows.ineqHoldsSpec) false w args) (Rows.ineqHoldsSpec.post enc Tryd.prog Tryd.f4 false true false false) := by
  refine returnsInHanded_of_change_and (C := Tryd.checked) (X := fun w _ => laidMetH Tryd.prog laid3 w) (fun _ _ _ hh h => h.of_heap hh) own started (by kernel_rfl) Tryd.func4
    (ChangeSpec.witness_shaped (enc := enc) (C := Tryd.checked) (os := os) (X := fun w _ => laidMetH Tryd.prog laid3 w) false (World.doorLaid Tryd.prog 400 os) #[.slice none 0 0, .slice none 0 0] 8 rfl (World.shaped_of_RefB (by kernel_rfl) (by kernel_rfl)) (by kernel_rfl) (by kernel_rfl) (by kernel_rfl) (door_met os _)) ?_
  intro W base args ds gs before hval0 hW hcnd hsz0 hL _
  have hsz : (DataW.weightsEach Tryd.prog (Tryd.f4.params.toList ++ Rows.ineqHoldsSpec.plain.varTypes Tryd.prog) (ds ++ gs)).all (· ≤ reachBytes) = true := hsz0
  have hval : ∀ (j : Nat) t v, Tryd.f4.params[j]? = some t → args[j]? = some v → Value.okWide Tryd.prog W .any base t v := hval0
  have hW' := hW
  obtain ⟨p, q, hA0, hV, rfl, hfz, hnd⟩ := hW
  have hA : DataW.TrodAll enc Tryd.prog W 0 (fun _ => true) true Tryd.f4.params.toList args.toList ds p := hA0
  rw [Tryd.params4] at hA hval hsz
  obtain ⟨v0, vs0, d0, ds0, p0, q0, hargs, rfl, rfl, h0, r_0⟩ := trodAll_cons hA
  obtain ⟨v1, vs1, d1, ds1, p1, q1, rfl, rfl, rfl, h1, r_1⟩ := trodAll_cons r_0
  obtain ⟨rfl, rfl, rfl⟩ := trodAll_nil r_1
  obtain rfl : args = #[v0, v1] := by cases args; simp_all
  obtain ⟨rfl, rfl⟩ := trodVars_none hV
  have w0 := rd_ineqs (hval 0 37 v0 rfl rfl) h0
  have w1 := rd_mults (hval 1 38 v1 rfl rfl) h1
  refine (walk_ineqHolds (w := W) (tab_of_laid hL) v0 w0 v1 w1).mono fun e W' ⟨he, bel⟩ => ?_
  subst he
  exact ⟨_, rfl, law_post laidOut (by kernel_rfl) rfl rfl Tryd.underlying4 hW' rfl rfl rfl bel⟩
theorem over : Rows.ineqHoldsRow.holds Tryd.pinned (OpenSpec.ofChange Rows.ineqHoldsSpec) :=
  OpenClaim.holds_of_wide 4 Tryd.f4 rfl rfl rfl rfl rfl rfl rfl ⟨rfl, rfl, rfl, rfl, rfl⟩ rfl rfl rfl rfl rfl (by kernel_rfl) Tryd.func4 (by kernel_rfl)
    (of_decide_eq_true (by kernel_rfl)) (by unfold Func.isWrapper; first | (rw [if_pos (by decide +kernel)]; kernel_rfl) | (rw [if_neg (by decide +kernel)]; exact ⟨rfl, rfl⟩))
    (fun os started H enc _ => lifted os started H enc)
theorem card : Rows.IneqHoldsCardSaid :=
  Claim7.holds_tied_plain_at .later [] [.data, .data, .data] true Rows.ineqHoldsCard.stood.harness false
    over (fun _ h => by cases h) (by kernel_rfl) (fun _ h => by cases h) ineqHolds_row_tie rfl ⟨rfl, rfl⟩ (by kernel_rfl) rfl
    (fun f fn hf hfn => by
      obtain rfl : f = 4 := Option.some.inj ((show Tryd.prog.funcNamed "usufruct/usufructlaw03.IneqHolds" = some 4 by kernel_rfl).symm.trans hf) |>.symm
      obtain rfl : fn = Tryd.f4 := (Option.some.inj (Tryd.func4.symm.trans hfn)).symm
      exact ⟨by kernel_rfl, fun j t ht => by
        rw [Tryd.params4] at ht
        have hm : t ∈ [37, 38] := by simpa using Array.mem_of_getElem? ht
        have hall : ([37, 38].all fun u => !Tryd.prog.wantsStandIn u) = true := by kernel_rfl
        exact (show Tryd.prog.wantsStandIn t = false by simpa using List.all_eq_true.1 hall t hm)⟩)
    (by kernel_rfl)
/-- the statement -/
theorem proved : Rows.IneqHoldsCardSaid := card
#print axioms proved
end ineqHolds
end Go.Proofs.YtbccnfgceabopaaDoor
