/- TermAt holds for every input: what any term is under any assignment is the document's, and so are the term of a use and the least multiplicity. No conditions. -/
import Derived.Test.YtbccnfgceabopaaLawU
import Derived.Test.YtbccnfgceabopaaRefX
import Derived.BigQuiet
import Derived.Lib.QuietBelow
namespace Go.Proofs.Ytbccnfgceabopaa
set_option linter.unusedVariables false
set_option linter.unusedSimpArgs false
open Go.ChangeShapes Go.WideShapes Go.ChangeAt Go.RowKit

theorem ofT_at {u : Int} (h : 0 ≤ u) : atR (ofT u) [] = (min u 3, 0) := by
  have h1 := nearI_lo u
  have h2 := nearI_hi u
  unfold ofT
  by_cases h0 : u = 0
  · subst h0; decide +kernel
  · rw [if_neg h0]
    have e : leastI u = min u 3 := by
      unfold leastI nearI
      rw [if_neg h0]
      split
      · omega
      · split <;> omega
    rw [e]
    have : mayB ⟨false, min u 3, []⟩ = true := (may_iff _).2 (.inr ⟨rfl, by simp; omega, by simp; omega, fun _ => rfl, by simp [Rises], by simp⟩)
    unfold atR
    rw [if_pos this]
    rfl
theorem atR_len {t : TermD} (h : greatB [t] = false) : t.vars.length * 8 ≤ 140737488355328 := by
  have := great_vars h t (by simp)
  omega
theorem ofT_vars (u : Int) : (ofT u).vars = [] := by unfold ofT; split <;> rfl

theorem refSame_at (v1 v2 : Value) (a b : TermD) (x : Bool) (hx : sameB a b = x) (w : World) (B B' : Nat) (h1 : TermV w B v1 a) (h2 : TermV w B' v2 b) (hB : B ≤ w.heap.size) (hB' : B' ≤ w.heap.size) :
    Calls Try.prog 19 #[v1, v2] w fun e w' => e = .returned (.bool x) ∧ Below w.heap.size w w' := by
  rw [← hx]
  exact refSame_any v1 v2 a b w B B' h1 h2 hB hB'
set_option maxHeartbeats 2000000 in
theorem walkA_termAt (A : Option Addr) (n c : Nat) (t : TermD) (A' : Option Addr) (n' c' : Nat) (asg : List Int) (u : Int) (w : World) (hr : RdI .i64 w w.heap.size A n c t.vars) (ha : RdI .u8 w w.heap.size A' n' c' asg) (hu : 0 ≤ u) :
    Calls Try.prog 5 #[.agg #[.bool t.never, .int .u8 t.c, .slice A n c], .slice A' n' c', .int .u8 u] w fun e w' => e = .returned (.bool true) ∧ Below w.heap.size w w' := by
  have hmn := @run_min2 Try.prog
  have st := (St.start w).new t hr
  have hz : (w.alloc (Obj.cells #[.bool t.never, .int .u8 t.c, .slice A n c] 25)).heap.size = w.heap.size + 1 := by simp
  have hr1 := st.rd hr
  have ha1 := Lib.hid ha
  obtain ⟨G, hG⟩ : ∃ G, greatB [t] = G := ⟨_, rfl⟩
  have hgr := great1_any hr1
  rw [hG] at hgr
  have HG := Lib.hid hG
  have Hgr := Lib.hid hgr
  have Hst := Lib.hid st
  clear hG hgr hr ha st hr1
  go_enter Try.func5, Try.ntmps5
  go_wp2_with fail
  rw [← hz]
  refine Hgr.out.mono ?_; rintro e w2 ⟨rfl, hb2⟩
  have st := Hst.out.below hb2
  clear Hst hb2 Hgr hz
  generalize w.heap.size = g0 at st ⊢
  cases G
  · obtain ⟨A2, n2, c2, x0, x1, x2, hr2⟩ := st.val g0 t (by simp)
    have hal := atR_len HG.out
    go_wp2_with fail
    refine (at_any (.agg #[.bool t.never, .int .u8 t.c, .slice A2 n2 c2]) t A' n' c' asg w2 _ _ ⟨A2, n2, c2, rfl, hr2⟩ (Nat.le_refl _) (st.rd ha1.out) (Nat.le_refl _)).mono ?_; rintro e w3 ⟨rfl, hb3⟩
    replace st := st.below hb3
    clear hb3 x0 x1 x2 hr2
    obtain ⟨A2, n2, c2, x0, x1, x2, hr2⟩ := st.val g0 t (by simp)
    go_wp2_with fail
    refine (refMay_t (.agg #[.bool t.never, .int .u8 t.c, .slice A2 n2 c2]) t w3 _ ⟨A2, n2, c2, rfl, hr2⟩ (Nat.le_refl _)).mono ?_; rintro e w4 ⟨rfl, hb4⟩
    replace st := st.below hb4
    clear hb4 x0 x1 x2 hr2
    cases hm : mayB t
    · have e0 : (atR t asg).1 = 0 := by unfold atR; rw [hm]; rfl
      have e1 : (atR t asg).2 = 2 := by unfold atR; rw [hm]; rfl
      rw [e0, e1]
      clear e0 e1 hm
      go_wp2_with fail
      refine (works_any _).mono ?_; rintro e w5 ⟨rfl, hb5⟩
      go_wp2_with fail
      go_ret
      exact ⟨rfl, (st.below hb5).bel⟩
    · rw [atR_eq asg hm]
      obtain ⟨A2, n2, c2, x0, x1, x2, hr2⟩ := st.val g0 t (by simp)
      have Hm := Lib.hid hm
      clear hm
      go_wp2_with fail
      refine (refAt_t (.agg #[.bool t.never, .int .u8 t.c, .slice A2 n2 c2]) t A' n' c' asg w4 _ _ ⟨A2, n2, c2, rfl, hr2⟩ (Nat.le_refl _) (st.rd ha1.out) (Nat.le_refl _) (may_pos Hm.out)).mono ?_; rintro e w5 ⟨rfl, hb5⟩
      replace st := st.below hb5
      clear hb5 x0 x1 x2 hr2
      generalize (rAt t asg).1 = q1
      generalize (rAt t asg).2 = q2
      go_wp2_with fail
      refine (of_any_t u w5).mono ?_
      rintro e w6 ⟨A6, n6, c6, rfl, hr6, hb6⟩
      replace st := st.below hb6
      clear hb6
      go_wp2_with fail
      refine (at_any (.agg #[.bool (ofT u).never, .int .u8 (ofT u).c, .slice A6 n6 c6]) (ofT u) none 0 0 [] w6 _ _ ⟨A6, n6, c6, rfl, hr6⟩ (Nat.le_refl _) RdI.nil (Nat.le_refl _)).mono ?_; rintro e w7 ⟨rfl, hb7⟩
      rw [ofT_at hu]
      replace st := st.below hb7
      clear hb7 hr6
      obtain ⟨A2, n2, c2, x0, x1, x2, hr2⟩ := st.val g0 t (by simp)
      go_wp2_with fail
      refine (least_any_t (.agg #[.bool t.never, .int .u8 t.c, .slice A2 n2 c2]) t w7 _ ⟨A2, n2, c2, rfl, hr2⟩ (Nat.le_refl _) hal).mono ?_
      rintro e w8 ⟨A8, n8, c8, rfl, hr8, hb8⟩
      replace st := st.below hb8
      clear hb8 x0 x1 x2 hr2
      have hlt := st.lt g0 t (by simp)
      go_wp2_with fail
      replace st := st.new (leastT t) hr8
      clear hr8
      generalize w8.alloc (Obj.cells #[.bool (leastT t).never, .int .u8 (leastT t).c, .slice A8 n8 c8] 25) = w9 at st ⊢
      generalize w8.heap.size = g13 at st hlt ⊢
      have hlt9 := st.lt g13 (leastT t) (by simp)
      have hlt09 : g0 < w9.heap.size := st.lt g0 t (by simp)
      obtain ⟨A2, n2, c2, x0, x1, x2, hr2⟩ := st.val g0 t (by simp)
      obtain ⟨A3, n3, c3, y0, y1, y2, hr3⟩ := st.val g13 (leastT t) (by simp)
      cases hn : t.never
      · rw [hn] at x0
        have hL : leastT t = ⟨false, t.c, t.vars⟩ := by unfold leastT; rw [hn]; cases t; simp_all
        rw [hL] at y0 y1 hr3
        dsimp only at y0 y1 hr3
        clear hL hn
        have kx0 := fun d os => cell_regrown x0 d os
        have kx1 := fun d os => cell_regrown x1 d os
        have kx2 := fun d os => cell_regrown x2 d os
        have ky0 := fun d os => cell_regrown y0 d os
        have ky1 := fun d os => cell_regrown y1 d os
        have ky2 := fun d os => cell_regrown y2 d os
        clear x0 x1 x2 y0 y1 y2
        refine wp_region_quiet_below (by kernel_rfl) (by kernel_rfl) ?_
        repeat (go_big_quiet_step ((first | (go_at_call 19; exact Calls.regrown_of (refSame_at (.agg #[.bool false, .int .u8 t.c, .slice A3 n3 c3]) (.agg #[.bool false, .int .u8 t.c, .slice A2 n2 c2]) ⟨false, t.c, t.vars⟩ ⟨false, t.c, t.vars⟩ true ((sameB_iff _ _).2 rfl) _ w9.heap.size w9.heap.size ⟨A3, n3, c3, rfl, hr3.below (below_regrown _ _ _)⟩ ⟨A2, n2, c2, rfl, hr2.below (below_regrown _ _ _)⟩ (below_regrown _ _ _).size (below_regrown _ _ _).size)) | (go_at_call 9; exact Calls.regrown_of (works_any _)))))
        refine wpQuiet_nil ?_
        intro _ hw'
        obtain ⟨⟨dq, osq⟩, hw''⟩ := hw'
        subst hw''
        go_wp2_with fail
        go_ret
        exact ⟨rfl, (st.below (below_regrown _ _ _)).bel⟩
      · rw [hn] at x0
        have hL : leastT t = ⟨false, 2, []⟩ := by unfold leastT; rw [hn]; rfl
        rw [hL] at y0 y1 hr3
        dsimp only at y0 y1 hr3
        clear hL hn
        have kx0 := fun d os => cell_regrown x0 d os
        have ky0 := fun d os => cell_regrown y0 d os
        have ky1 := fun d os => cell_regrown y1 d os
        have ky2 := fun d os => cell_regrown y2 d os
        clear x0 y0 y1 y2
        refine wp_region_quiet_below (by kernel_rfl) (by kernel_rfl) ?_
        repeat (go_big_quiet_step ((first | (go_at_call 23; exact Calls.regrown_of (some_any _ _ _ _ _)) | (go_at_call 19; exact Calls.regrown_of (refSame_at (.agg #[.bool false, .int .u8 2, .slice A3 n3 c3]) (.agg #[.bool false, .int .u8 2, .slice none 0 0]) ⟨false, 2, []⟩ ⟨false, 2, []⟩ true ((sameB_iff _ _).2 rfl) _ w9.heap.size w9.heap.size ⟨A3, n3, c3, rfl, hr3.below (below_regrown _ _ _)⟩ ⟨none, 0, 0, rfl, RdI.nil⟩ (below_regrown _ _ _).size (below_regrown _ _ _).size)) | (go_at_call 9; exact Calls.regrown_of (works_any _)))))
        refine wpQuiet_nil ?_
        intro _ hw'
        obtain ⟨⟨dq, osq⟩, hw''⟩ := hw'
        subst hw''
        go_wp2_with fail
        go_ret
        exact ⟨rfl, (st.below (below_regrown _ _ _)).bel⟩
  · go_wp2_with fail
    refine (works_any _).mono ?_; rintro e w3 ⟨rfl, hb3⟩
    go_wp2_with fail
    go_ret
    exact ⟨rfl, (st.below hb3).bel⟩

theorem walk_termAt (v1 : Value) (w : World) (h1 : TermIn w v1) (v2 : Value) (h2 : MultsIn w v2) (u : Int) (hu : 0 ≤ u ∧ u ≤ 255) :
    Calls Try.prog 5 #[v1, v2, .int .u8 u] w fun e w' => e = .returned (.bool true) ∧ Below w.heap.size w w' := by
  obtain ⟨t, ⟨A, n, c, rfl, hr⟩, _⟩ := h1
  obtain ⟨A', n', c', asg, rfl, ha, _⟩ := h2
  exact walkA_termAt A n c t A' n' c' asg u w hr ha hu.1

/-! ### the row's step -/
namespace termAt
set_option maxRecDepth 100000 in
theorem lifted (os : Os) (started : os.Started) (H : Type) (enc : TypeId × Value → H) :
    ReturnsInHanded {} Try.checked os 5 .any (Rows.termAtSpec.pre6 enc Try.prog Try.f5 Rows.termAtRow.domain false) (Rows.termAtSpec.post enc Try.prog Try.f5 false true false false) := by
  refine returnsInHanded_of_change_sized (C := Try.checked) own started (by kernel_rfl) Try.func5
    (ChangeSpec.witness6 (enc := enc) (C := Try.checked) false ⟨#[], #[.agg #[.bool false, .int .u8 0, .slice none 0 0], .slice none 0 0, .int .u8 0], []⟩ 8 (by kernel_rfl) (by kernel_rfl) (by kernel_rfl) (by kernel_rfl)) ?_
  intro W base args ds gs before hval0 hW hcnd hsz0 _
  have hsz : (DataW.weightsEach Try.prog (Try.f5.params.toList ++ Rows.termAtSpec.plain.varTypes Try.prog) (ds ++ gs)).all (· ≤ reachBytes) = true := hsz0
  have hval : ∀ (j : Nat) t v, Try.f5.params[j]? = some t → args[j]? = some v → Value.okWide Try.prog W .any base t v := hval0
  have hW' := hW
  obtain ⟨p, q, hA0, hV, rfl, hfz, hnd⟩ := hW
  have hA : DataW.TrodAll enc Try.prog W 0 (fun _ => true) true Try.f5.params.toList args.toList ds p := hA0
  rw [Try.params5] at hA hval hsz
  obtain ⟨v0, vs0, d0, ds0, p0, q0, hargs, rfl, rfl, h0, r_0⟩ := trodAll_cons hA
  obtain ⟨v1, vs1, d1, ds1, p1, q1, rfl, rfl, rfl, h1, r_1⟩ := trodAll_cons r_0
  obtain ⟨v2, vs2, d2, ds2, p2, q2, rfl, rfl, rfl, h2, r_2⟩ := trodAll_cons r_1
  obtain ⟨rfl, rfl, rfl⟩ := trodAll_nil r_2
  obtain rfl : args = #[v0, v1, v2] := by cases args; simp_all
  obtain ⟨rfl, rfl⟩ := trodVars_none hV
  have w0 := rd_term (hval 0 25 v0 rfl rfl) h0
  have w1 := rd_mults (hval 1 31 v1 rfl rfl) h1
  obtain ⟨a2, rfl, _, _, w2⟩ := open_int Try.underlying32 (hval 2 32 v2 rfl rfl) h2
  have b2 := bounds_u8 w2
  refine (walk_termAt (w := W) v0 w0 v1 w1 a2 b2).mono fun e W' ⟨he, bel⟩ => ?_
  subst he
  exact ⟨_, rfl, law_post laidOut (by kernel_rfl) rfl rfl Try.underlying4 hW' rfl rfl rfl bel⟩
theorem over : Rows.termAtRow.holds Try.pinned (OpenSpec.ofChange Rows.termAtSpec) :=
  OpenClaim.holds_of_wide 5 Try.f5 rfl rfl rfl rfl rfl rfl rfl ⟨rfl, rfl, rfl, rfl, rfl⟩ rfl rfl rfl rfl rfl (by kernel_rfl) Try.func5 (by kernel_rfl)
    (of_decide_eq_true (by kernel_rfl)) (by unfold Func.isWrapper; first | (rw [if_pos (by decide +kernel)]; kernel_rfl) | (rw [if_neg (by decide +kernel)]; exact ⟨rfl, rfl⟩))
    (fun os started H enc _ => lifted os started H enc)
/-- the statement -/
theorem proved : Rows.TermAtSaid := over
#print axioms proved
end termAt
end Go.Proofs.Ytbccnfgceabopaa
