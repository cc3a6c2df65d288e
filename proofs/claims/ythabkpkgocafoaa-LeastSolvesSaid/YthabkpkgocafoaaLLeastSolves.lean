/- LeastSolves holds for every input: whether any inequalities have a solution over any least ones, and the least one, are the document's. No conditions. -/
import Derived.Test.YthabkpkgocafoaaLawL
import Derived.Test.YthabkpkgocafoaaRowQ
namespace Go.Proofs.Ythabkpkgocafoaa
set_option linter.unusedVariables false
set_option linter.unusedSimpArgs false
open Go.ChangeShapes Go.WideShapes Go.ChangeAt Go.RowKit

set_option maxRecDepth 100000 in
set_option maxHeartbeats 2000000 in
theorem walkA_leastSolves (n : Int) (Aw : Option Addr) (nw cw : Nat) (low : List Int) (Al : Option Addr) (nl cl : Nat) (xs : List IneqD) (w : World) (hlw : RdI .u8 w w.heap.size Aw nw cw low) (hx : IneqsV w w.heap.size Al nl cl xs) :
    Calls Try.prog 4 #[.int .i64 n, .slice Aw nw cw, .slice Al nl cl] w fun e w' => e = .returned (.bool true) ∧ Below w.heap.size w w' := by
  have hxl := hx.len
  have Hlw := Lib.hid hlw
  have Hx := Lib.hid hx
  clear hlw hx
  cases hG : greatL n nw nl with
  | true =>
    have HG := Lib.hid hG
    clear hG
    go_enter Try.func4, Try.ntmps4
    go_wp2_with fail
    refine (greatL_any true n Aw nw cw Al nl cl w HG.out).mono ?_; rintro e w1 ⟨rfl, rfl⟩
    have Hbw := Lib.hid (Below.refl w.heap.size w)
    go_wp2_with fail
    refine (worksL_any _).mono ?_
    rintro e w8 ⟨rfl, hb8⟩
    have Hb8 := Lib.hid (Hbw.out.trans (hb8.mono Hbw.out.size))
    clear hb8
    go_wp2_with fail
    go_ret
    exact ⟨by first | rfl | decide | simp, Hb8.out⟩
  | false =>
    have hg : n ≤ 200 ∧ nl ≤ 400 := by unfold greatL at hG; simp at hG; omega
    have HG := Lib.hid hG
    clear hG
    obtain ⟨hn200, hl400⟩ := hg
    by_cases hok : OkS n low xs
    · obtain ⟨N, hN⟩ : ∃ N : Nat, n = (N : Int) := ⟨n.toNat, (Int.toNat_of_nonneg hok.n0).symm⟩
      subst hN
      have Hok := Lib.hid hok
      clear hok
      go_enter Try.func4, Try.ntmps4
      go_wp2_with fail
      refine (greatL_any false N Aw nw cw Al nl cl w HG.out).mono ?_; rintro e w1 ⟨rfl, rfl⟩
      go_wp2_with fail
      refine (solve_any N Aw nw cw low Al nl cl xs w Hlw.out Hx.out).mono ?_
      rintro e w2 ⟨A, m, c, A2, m2, c2, a, core, er, rfl, hra, hrc, hS, hb2⟩
      have hlw2 := (Hlw.out.below hb2).more hb2.size
      have hx2 := (Hx.out.below hb2).more hb2.size
      have Hlw2 := Lib.hid hlw2
      have Hx2 := Lib.hid hx2
      have Hra := Lib.hid hra
      have Hrc := Lib.hid hrc
      have HS := Lib.hid hS
      have Hb2 := Lib.hid hb2
      clear hlw2 hx2 hra hrc hS hb2
      go_wp2_with fail
      refine (refMay4_any true N Aw nw cw low Al nl cl xs w2 Hlw2.out Hx2.out ⟨fun _ => Hok.out, fun _ => rfl⟩).mono ?_
      rintro e w3 ⟨rfl, hb3⟩
      have Hlw3 := Lib.hid ((Hlw2.out.below hb3).more hb3.size)
      have Hx3 := Lib.hid ((Hx2.out.below hb3).more hb3.size)
      have Hra3 := Lib.hid ((Hra.out.below hb3).more hb3.size)
      have Hb3 := Lib.hid (Hb2.out.trans (hb3.mono Hb2.out.size))
      clear hb3
      go_wp2_with fail
      refine (refSolve_any N (by omega) Aw nw cw low Al nl cl xs w3 Hlw3.out Hx3.out Hok.out).mono ?_
      rintro e w4 ⟨A4, m4, c4, a4, ok4, rfl, hr4, hR4, hb4⟩
      have Hbw := Lib.hid (Hb3.out.trans (hb4.mono Hb3.out.size))
      have Hra4 := Lib.hid ((Hra3.out.below hb4).more hb4.size)
      have Hr4 := Lib.hid hr4
      clear hb4 hr4
      cases ok4 with
      | false =>
        obtain ⟨_, hno⟩ := hR4.2 rfl
        obtain ⟨h40, ha0⟩ := HS.out.none (by omega) (by omega) Hok.out hno
        subst h40
        have hm : m = 0 := by have := Hra.out.len; rw [ha0] at this; exact this.symm
        subst hm
        clear hno ha0 hR4
        go_wp2_with fail
        refine (worksL_any _).mono ?_
        rintro e w8 ⟨rfl, hb8⟩
        have Hb8 := Lib.hid (Hbw.out.trans (hb8.mono Hbw.out.size))
        clear hb8
        go_wp2_with fail
        go_ret
        exact ⟨by first | rfl | decide | simp, Hb8.out⟩
      | true =>
        obtain ⟨h0, ha, hc⟩ := HS.out.least (by omega) (by omega) Hok.out (hR4.1 rfl)
        subst h0
        subst ha
        have hm : m2 = 0 := by have := Hrc.out.len; rw [hc] at this; exact this.symm
        subst hm
        clear hc hR4
        go_wp2_with fail
        refine (equalM_any A m c a A4 m4 c4 a w4 Hra4.out Hr4.out).mono ?_
        rintro e w5 ⟨rfl, hb5⟩
        have hBw5 := Hbw.out.trans (hb5.mono Hbw.out.size)
        clear Hbw hb5
        have Hbw := Lib.hid hBw5
        clear hBw5
        rw [show (a == a) = true from by simp]
        go_wp2_with fail
        refine (worksL_any _).mono ?_
        rintro e w8 ⟨rfl, hb8⟩
        have Hb8 := Lib.hid (Hbw.out.trans (hb8.mono Hbw.out.size))
        clear hb8
        go_wp2_with fail
        go_ret
        exact ⟨by first | rfl | decide | simp, Hb8.out⟩
    · have Hok := Lib.hid hok
      clear hok
      go_enter Try.func4, Try.ntmps4
      go_wp2_with fail
      refine (greatL_any false n Aw nw cw Al nl cl w HG.out).mono ?_; rintro e w1 ⟨rfl, rfl⟩
      go_wp2_with fail
      refine (solve_any n Aw nw cw low Al nl cl xs w Hlw.out Hx.out).mono ?_
      rintro e w2 ⟨A, m, c, A2, m2, c2, a, core, er, rfl, hra, hrc, hS, hb2⟩
      obtain ⟨ha, hc, he⟩ := hS.bad (by omega) (by omega) Hok.out
      subst he
      have hm : m = 0 := by have := hra.len; rw [ha] at this; exact this.symm
      have hm2 : m2 = 0 := by have := hrc.len; rw [hc] at this; exact this.symm
      subst hm
      subst hm2
      have Hlw2 := Lib.hid ((Hlw.out.below hb2).more hb2.size)
      have Hx2 := Lib.hid ((Hx.out.below hb2).more hb2.size)
      have Hb2 := Lib.hid hb2
      clear hra hrc hS hb2 ha hc
      go_wp2_with fail
      refine (refMay4_any false n Aw nw cw low Al nl cl xs w2 Hlw2.out Hx2.out ⟨fun h => Bool.noConfusion h, fun h => absurd h Hok.out⟩).mono ?_
      rintro e w3 ⟨rfl, hb3⟩
      have Hbw := Lib.hid (Hb2.out.trans (hb3.mono Hb2.out.size))
      clear hb3
      go_wp2_with fail
      refine (worksL_any _).mono ?_
      rintro e w8 ⟨rfl, hb8⟩
      have Hb8 := Lib.hid (Hbw.out.trans (hb8.mono Hbw.out.size))
      clear hb8
      go_wp2_with fail
      go_ret
      exact ⟨by first | rfl | decide | simp, Hb8.out⟩

theorem walk_leastSolves (n : Int) (hn : -9223372036854775808 ≤ n ∧ n ≤ 9223372036854775807) (v1 : Value) (w : World) (h1 : MultsIn w v1) (v2 : Value) (h2 : IneqsIn w v2) :
    Calls Try.prog 4 #[.int .i64 n, v1, v2] w fun e w' => e = .returned (.bool true) ∧ Below w.heap.size w w' := by
  obtain ⟨A, nw, c, low, rfl, ha, _⟩ := h1
  obtain ⟨A', nl, c', xs, rfl, hx, _⟩ := h2
  exact walkA_leastSolves n A nw c low A' nl c' xs w ha hx

/-! ### the row's step -/
namespace leastSolves
set_option maxRecDepth 100000 in
theorem lifted (os : Os) (started : os.Started) (H : Type) (enc : TypeId × Value → H) :
    ReturnsInHanded {} Try.checked os 4 .any (Rows.leastSolvesSpec.pre6 enc Try.prog Try.f4 Rows.leastSolvesRow.domain false) (Rows.leastSolvesSpec.post enc Try.prog Try.f4 false true false false) := by
  refine returnsInHanded_of_change_sized (C := Try.checked) own started (by kernel_rfl) Try.func4
    (ChangeSpec.witness6 (enc := enc) (C := Try.checked) false ⟨#[], #[.int .i64 0, .slice none 0 0, .slice none 0 0], []⟩ 8 (by kernel_rfl) (by kernel_rfl) (by kernel_rfl) (by kernel_rfl)) ?_
  intro W base args ds gs before hval0 hW hcnd hsz0 _
  have hsz : (DataW.weightsEach Try.prog (Try.f4.params.toList ++ Rows.leastSolvesSpec.plain.varTypes Try.prog) (ds ++ gs)).all (· ≤ reachBytes) = true := hsz0
  have hval : ∀ (j : Nat) t v, Try.f4.params[j]? = some t → args[j]? = some v → Value.okWide Try.prog W .any base t v := hval0
  have hW' := hW
  obtain ⟨p, q, hA0, hV, rfl, hfz, hnd⟩ := hW
  have hA : DataW.TrodAll enc Try.prog W 0 (fun _ => true) true Try.f4.params.toList args.toList ds p := hA0
  rw [Try.params4] at hA hval hsz
  obtain ⟨v0, vs0, d0, ds0, p0, q0, hargs, rfl, rfl, h0, r_0⟩ := trodAll_cons hA
  obtain ⟨v1, vs1, d1, ds1, p1, q1, rfl, rfl, rfl, h1, r_1⟩ := trodAll_cons r_0
  obtain ⟨v2, vs2, d2, ds2, p2, q2, rfl, rfl, rfl, h2, r_2⟩ := trodAll_cons r_1
  obtain ⟨rfl, rfl, rfl⟩ := trodAll_nil r_2
  obtain rfl : args = #[v0, v1, v2] := by cases args; simp_all
  obtain ⟨rfl, rfl⟩ := trodVars_none hV
  obtain ⟨a0, rfl, _, _, w0⟩ := open_int Try.underlying3 (hval 0 3 v0 rfl rfl) h0
  have b0 := bounds_i64 w0
  have w1 := rd_mults (hval 1 22 v1 rfl rfl) h1
  have w2 := rd_ineqs (hval 2 35 v2 rfl rfl) h2
  refine (walk_leastSolves (w := W) a0 b0 v1 w1 v2 w2).mono fun e W' ⟨he, bel⟩ => ?_
  subst he
  exact ⟨_, rfl, law_post laidOut (by kernel_rfl) rfl rfl Try.underlying4 hW' rfl rfl rfl bel⟩
theorem over : Rows.leastSolvesRow.holds Try.pinned (OpenSpec.ofChange Rows.leastSolvesSpec) :=
  OpenClaim.holds_of_wide 4 Try.f4 rfl rfl rfl rfl rfl rfl rfl ⟨rfl, rfl, rfl, rfl, rfl⟩ rfl rfl rfl rfl rfl (by kernel_rfl) Try.func4 (by kernel_rfl)
    (of_decide_eq_true (by kernel_rfl)) (by unfold Func.isWrapper; first | (rw [if_pos (by decide +kernel)]; kernel_rfl) | (rw [if_neg (by decide +kernel)]; exact ⟨rfl, rfl⟩))
    (fun os started H enc _ => lifted os started H enc)
/-- the statement -/
theorem proved : Rows.LeastSolvesSaid := over
#print axioms proved
end leastSolves
end Go.Proofs.Ythabkpkgocafoaa
