/- LeastAgain holds for every input: any inequalities solved again above what was told give the same, and with any more inequalities nothing falls below what it was. No conditions. -/
import Derived.Test.YthabkpkgocafoaaLawN
import Derived.Test.YthabkpkgocafoaaRowQ
namespace Go.Proofs.Ythabkpkgocafoaa
set_option linter.unusedVariables false
set_option linter.unusedSimpArgs false
open Go.ChangeShapes Go.WideShapes Go.ChangeAt Go.RowKit

set_option maxRecDepth 100000 in
set_option maxHeartbeats 2000000 in
theorem walkA_leastAgain (n : Int) (Aw : Option Addr) (nw cw : Nat) (low : List Int) (Al : Option Addr) (nl cl : Nat) (xs : List IneqD) (Am : Option Addr) (nm cm : Nat) (ys : List IneqD) (w : World) (hlw : RdI .u8 w w.heap.size Aw nw cw low) (hx : IneqsV w w.heap.size Al nl cl xs) (hy : IneqsV w w.heap.size Am nm cm ys) :
    Calls Try.prog 5 #[.int .i64 n, .slice Aw nw cw, .slice Al nl cl, .slice Am nm cm] w fun e w' => e = .returned (.bool true) ∧ Below w.heap.size w w' := by
  obtain ⟨i0, hi0, hz0, hz1, hz2⟩ := info_parts ineqInfo
  have hxl := hx.len
  have hyl := hy.len
  have Hlw := Lib.hid hlw
  have Hx := Lib.hid hx
  have Hy := Lib.hid hy
  clear hlw hx hy
  cases hG : greatL n nw nl with
  | true =>
    have HG := Lib.hid hG
    clear hG
    go_enter Try.func5, Try.ntmps5
    go_wp2_with fail
    refine (greatL_any true n Aw nw cw Al nl cl w HG.out).mono ?_; rintro e w1 ⟨rfl, rfl⟩
    have Hbw := Lib.hid (Below.refl w.heap.size w)
    go_wp2_with fail
    refine (worksL_any _).mono ?_
    rintro e w8 ⟨rfl, hb8⟩
    have Hb8 := Lib.hid (Hbw.out.trans (hb8.mono Hbw.out.size))
    clear hb8
    go_wp2_with fail
    go_ret
    exact ⟨by first | rfl | decide | simp, Hb8.out⟩
  | false =>
    have hg : n ≤ 200 ∧ nl ≤ 400 := by unfold greatL at hG; simp at hG; omega
    have HG := Lib.hid hG
    clear hG
    obtain ⟨hn200, hl400⟩ := hg
    cases hG2 : greatL n nw nm with
    | true =>
      have HG2 := Lib.hid hG2
      clear hG2
      go_enter Try.func5, Try.ntmps5
      go_wp2_with fail
      refine (greatL_any false n Aw nw cw Al nl cl w HG.out).mono ?_; rintro e w1 ⟨rfl, rfl⟩
      go_wp2_with fail
      refine (greatL_any true n Aw nw cw Am nm cm w HG2.out).mono ?_; rintro e w1 ⟨rfl, rfl⟩
      have Hbw := Lib.hid (Below.refl w.heap.size w)
      go_wp2_with fail
      refine (worksL_any _).mono ?_
      rintro e w8 ⟨rfl, hb8⟩
      have Hb8 := Lib.hid (Hbw.out.trans (hb8.mono Hbw.out.size))
      clear hb8
      go_wp2_with fail
      go_ret
      exact ⟨by first | rfl | decide | simp, Hb8.out⟩
    | false =>
      have hm400 : nm ≤ 400 := by unfold greatL at hG2; simp at hG2; omega
      have HG2 := Lib.hid hG2
      clear hG2
      go_enter Try.func5, Try.ntmps5
      go_wp2_with fail
      refine (greatL_any false n Aw nw cw Al nl cl w HG.out).mono ?_; rintro e w1 ⟨rfl, rfl⟩
      go_wp2_with fail
      refine (greatL_any false n Aw nw cw Am nm cm w HG2.out).mono ?_; rintro e w1 ⟨rfl, rfl⟩
      go_wp2_with fail
      refine (solve_any n Aw nw cw low Al nl cl xs w Hlw.out Hx.out).mono ?_
      rintro e w1 ⟨A, m, c, A2, m2, c2, a, core, er, rfl, hra, hrc, hS, hb1⟩
      have Hra := Lib.hid hra
      have Hlw1 := Lib.hid ((Hlw.out.below hb1).more hb1.size)
      have Hx1 := Lib.hid ((Hx.out.below hb1).more hb1.size)
      have Hy1 := Lib.hid ((Hy.out.below hb1).more hb1.size)
      have Hbw := Lib.hid hb1
      have HS := Lib.hid hS
      clear hra hrc hb1 hS
      by_cases he : er = 0
      · subst he
        obtain ⟨_, _, hok, hL, _⟩ := HS.out.zero rfl
        obtain ⟨N, hN⟩ : ∃ N : Nat, n = (N : Int) := ⟨n.toNat, (Int.toNat_of_nonneg hok.n0).symm⟩
        subst hN
        have hrg : ∀ z ∈ a, 1 ≤ z ∧ z ≤ 3 := by
          rcases HS.out.ways (by omega) (by omega) hok with ⟨_, _, h⟩ | ⟨h, _⟩
          · exact h
          · exact absurd h (by decide)
        have hal : a.length = N := by rw [hL.sol.len, low0_len hok]
        have hm : m = N := by have := Hra.out.len; omega
        subst hm
        have Hok := Lib.hid hok
        have HL := Lib.hid hL
        have Hrg := Lib.hid hrg
        have Hal := Lib.hid hal
        clear hok hL hrg hal
        go_wp2_with fail
        refine (solve_any m A m c a Al nl cl xs w1 Hra.out Hx1.out).mono ?_
        rintro e w2 ⟨A3, m3, c3, A4, m4, c4, b, core3, er3, rfl, hrb, _, hS3, hb2⟩
        obtain ⟨h1, h2⟩ := again_self Hok.out HL.out Hrg.out (by omega) (by omega) hS3
        subst h1
        subst h2
        have Hrb := Lib.hid hrb
        have Hra2 := Lib.hid ((Hra.out.below hb2).more hb2.size)
        have Hlw2 := Lib.hid ((Hlw1.out.below hb2).more hb2.size)
        have Hx2 := Lib.hid ((Hx1.out.below hb2).more hb2.size)
        have Hy2 := Lib.hid ((Hy1.out.below hb2).more hb2.size)
        have hbw2 := Hbw.out.trans (hb2.mono Hbw.out.size)
        clear Hbw hb2 hrb hS3
        have Hbw := Lib.hid hbw2
        clear hbw2
        go_wp2_with fail
        refine (equalM_any A m c b A3 m3 c3 b w2 Hra2.out Hrb.out).mono ?_
        rintro e w3 ⟨rfl, hb3⟩
        rw [show (b == b) = true from by simp]
        have Hra3 := Lib.hid ((Hra2.out.below hb3).more hb3.size)
        have Hlw3 := Lib.hid ((Hlw2.out.below hb3).more hb3.size)
        have Hx3 := Lib.hid ((Hx2.out.below hb3).more hb3.size)
        have Hy3 := Lib.hid ((Hy2.out.below hb3).more hb3.size)
        have hbw3 := Hbw.out.trans (hb3.mono Hbw.out.size)
        clear Hbw hb3
        have Hbw := Lib.hid hbw3
        have Hbw3 := Lib.hid hbw3
        clear hbw3
        go_wp2_with fail
        refine (cloneQ_any Al nl cl xs w3 Hx3.out (by omega)).mono ?_
        rintro e w4 ⟨A5, c5, rfl, ho5, hb4⟩
        have Hra4 := Lib.hid ((Hra3.out.below hb4).more hb4.size)
        have Hlw4 := Lib.hid ((Hlw3.out.below hb4).more hb4.size)
        have Hx4 := Lib.hid ((Hx3.out.below hb4).more hb4.size)
        have Hy4 := Lib.hid ((Hy3.out.below hb4).more hb4.size)
        have hbw4 := Hbw.out.trans (hb4.mono Hbw.out.size)
        clear Hbw
        have Hbw := Lib.hid hbw4
        have hz4 := hb4.size
        have Hb4 := Lib.hid hb4
        have Ho5 := Lib.hid ho5
        clear hbw4 hb4 ho5
        go_wp2_with (at_builtin; refine wpList_append_rd _ rfl (.tmp 63) (.tmp 64) 35 rfl w3.heap.size 31 i0 _ 4 32 Try.underlying35 hi0 hz0 hz1 hz2 rfl (by omega) _ nl (cellsQ xs) rfl Ho5.out w4.heap.size _ nm _ (cellsQ ys) rfl Hy4.out.rd4 (cellsQ_one ys) (by unfold maxLen; omega) (by omega) (by omega) ?_; intro v7 w7 ho7 hg7 hat7; obtain ⟨A7, c7, rfl⟩ := ownsRow_form ho7)
        have hb37 : Below w3.heap.size w3 w7 := Hb4.out.grown hg7 hz4 (fun k hk => (ownsRow_lt Ho5.out hk).1)
        rw [← cellsQ_append] at ho7
        have Hq7 := Lib.hid (IneqsV.of_own4 ho7)
        have Hra7 := Lib.hid ((Hra3.out.below hb37).more hb37.size)
        have Hlw7 := Lib.hid ((Hlw3.out.below hb37).more hb37.size)
        have Hx7 := Lib.hid ((Hx3.out.below hb37).more hb37.size)
        have Hy7 := Lib.hid ((Hy3.out.below hb37).more hb37.size)
        have hbw7 := Hbw3.out.trans (hb37.mono Hbw3.out.size)
        clear Hbw Hbw3
        have Hbw := Lib.hid hbw7
        clear hbw7 hb37 hg7 hat7 ho7 Ho5 Hra4 Hlw4 Hx4 Hy4 Hb4
        refine (solve_any m Aw nw cw low A7 (nl + nm) c7 (xs ++ ys) w7 Hlw7.out Hq7.out).mono ?_
        rintro e w8 ⟨Ac, mc, cc, A8, m8, c8, cs, core8, er8, rfl, hrc, _, hS8, hb8⟩
        have Hrc := Lib.hid hrc
        have HS8 := Lib.hid hS8
        have Hra8 := Lib.hid ((Hra7.out.below hb8).more hb8.size)
        have Hx8 := Lib.hid ((Hx7.out.below hb8).more hb8.size)
        have Hy8 := Lib.hid ((Hy7.out.below hb8).more hb8.size)
        have hbw8 := Hbw.out.trans (hb8.mono Hbw.out.size)
        clear Hbw hb8 hrc hS8 Hra7 Hlw7 Hx7 Hy7 Hq7
        have Hbw := Lib.hid hbw8
        clear hbw8
        go_wp2_with fail
        refine (cloneQ_any Am nm cm ys w8 Hy8.out (by omega)).mono ?_
        rintro e w9 ⟨A9, c9, rfl, ho9, hb9⟩
        have Hx9 := Lib.hid ((Hx8.out.below hb9).more hb9.size)
        have hz9 := hb9.size
        have Hb9 := Lib.hid hb9
        have Ho9 := Lib.hid ho9
        clear hb9 ho9
        go_wp2_with (at_builtin; refine wpList_append_rd _ rfl (.tmp 74) (.tmp 75) 35 rfl w8.heap.size 31 i0 _ 4 32 Try.underlying35 hi0 hz0 hz1 hz2 rfl (by omega) _ nm (cellsQ ys) rfl Ho9.out w9.heap.size _ nl _ (cellsQ xs) rfl Hx9.out.rd4 (cellsQ_one xs) (by unfold maxLen; omega) (by omega) (by omega) ?_; intro v7 w7 ho7 hg7 hat7; obtain ⟨A7, c7, rfl⟩ := ownsRow_form ho7)
        have hb810 : Below w8.heap.size w8 w7 := Hb9.out.grown hg7 hz9 (fun k hk => (ownsRow_lt Ho9.out hk).1)
        rw [← cellsQ_append] at ho7
        have Hq10 := Lib.hid (IneqsV.of_own4 ho7)
        have Hra10 := Lib.hid ((Hra8.out.below hb810).more hb810.size)
        have Hrc10 := Lib.hid ((Hrc.out.below hb810).more hb810.size)
        have hbw10 := Hbw.out.trans (hb810.mono Hbw.out.size)
        clear Hbw
        have Hbw := Lib.hid hbw10
        clear hbw10 hb810 hg7 hat7 ho7 Ho9 Hb9 Hx9
        refine (solve_any m A m c b A7 (nm + nl) c7 (ys ++ xs) w7 Hra10.out Hq10.out).mono ?_
        rintro e w11 ⟨Ad, md, cd, A12, m12, c12, ds, core11, er11, rfl, hrd, _, hS11, hb11⟩
        obtain ⟨hef, hcd⟩ := again_more Hok.out HL.out Hrg.out (by omega) (by omega) HS8.out hS11
        subst hef
        have Hrd := Lib.hid hrd
        have Hcd := Lib.hid hcd
        have Hra11 := Lib.hid ((Hra10.out.below hb11).more hb11.size)
        have Hrc11 := Lib.hid ((Hrc10.out.below hb11).more hb11.size)
        have hbw11 := Hbw.out.trans (hb11.mono Hbw.out.size)
        clear Hbw hb11 hrd hS11 hcd
        have Hbw := Lib.hid hbw11
        clear hbw11
        have g0 : (er8 != er8) = false := by simp
        have g1 : (er8 == er8) = true := by simp
        by_cases he8 : er8 = 0
        · subst he8
          obtain ⟨hcs, hcl, hle⟩ := Hcd.out rfl
          subst hcs
          have hmc : mc = m := by have h1 := Hrc.out.len; have h2 := Hal.out; omega
          subst hmc
          have Hle := Lib.hid hle
          have Hcl := Lib.hid hcl
          clear hle hcl
          have n63 : mc ≤ 9223372036854775807 := by omega
          go_wp2_with fail
          go_loopg [96] mc (fun gh i wr => ∃ k, k ≤ mc ∧ gh = mc - k ∧ i = .int .i64 (k : Nat) ∧ wr = w11)
          case atStart => exact ⟨0, Nat.zero_le _, rfl, rfl, rfl⟩
          case round =>
            obtain ⟨k, hk, rfl, rfl, hwr⟩ := hrel
            rw [hwr]
            clear hwr
            by_cases hkN : k < mc
            · have k1 : k < b.length := by have := Hal.out; omega
              have k2 : k < cs.length := by have := Hcl.out; omega
              obtain ⟨b1, o1, q, hb1, hc1⟩ := Hra11.out.at_ (by omega)
              subst q
              have e0 := hc1 k k1
              obtain ⟨b2, o2, q, hb2, hc2⟩ := Hrc11.out.at_ (by omega)
              subst q
              have e1 := hc2 k k2
              have i1 : (0 : Int) ≤ (k : Int) := by omega
              have i2 : (k : Int) < mc := by omega
              have hle := Hle.out k k2 k1
              have f9 : decide (cs[k] < b[k]) = false := by simp; omega
              have f8 : decide ((k : Int) ≥ (mc : Int)) = false := by simp; omega
              clear hc1 hc2 hle
              go_wp2_with fail
              go_roundg (mc - (k + 1))
              case measure => omega
              case rel => exact ⟨k + 1, by omega, rfl, by simp, rfl⟩
            · go_wp2_with fail
              refine (equalM_any Ac mc cc cs Ad md cd cs w11 Hrc11.out Hrd.out).mono ?_
              rintro e w12 ⟨rfl, hb12⟩
              rw [show (cs == cs) = true from by simp]
              have hbw12 := Hbw.out.trans (hb12.mono Hbw.out.size)
              clear Hbw hb12
              have Hbw := Lib.hid hbw12
              clear hbw12
              go_wp2_with fail
              refine (worksL_any _).mono ?_
              rintro e w8 ⟨rfl, hb8⟩
              have Hb8 := Lib.hid (Hbw.out.trans (hb8.mono Hbw.out.size))
              clear hb8
              go_wp2_with fail
              go_ret
              exact ⟨by first | rfl | decide | simp, Hb8.out⟩
        · have f1 : (er8 != 0) = true := by simp [he8]
          clear he8
          go_wp2_with fail
          refine (worksL_any _).mono ?_
          rintro e w8 ⟨rfl, hb8⟩
          have Hb8 := Lib.hid (Hbw.out.trans (hb8.mono Hbw.out.size))
          clear hb8
          go_wp2_with fail
          go_ret
          exact ⟨by first | rfl | decide | simp, Hb8.out⟩
      · have f1 : (er != 0) = true := by simp [he]
        clear he
        go_wp2_with fail
        refine (worksL_any _).mono ?_
        rintro e w8 ⟨rfl, hb8⟩
        have Hb8 := Lib.hid (Hbw.out.trans (hb8.mono Hbw.out.size))
        clear hb8
        go_wp2_with fail
        go_ret
        exact ⟨by first | rfl | decide | simp, Hb8.out⟩

theorem walk_leastAgain (n : Int) (hn : -9223372036854775808 ≤ n ∧ n ≤ 9223372036854775807) (v0 : Value) (w : World) (h0 : MultsIn w v0) (v1 : Value) (h1 : IneqsIn w v1) (v2 : Value) (h2 : IneqsIn w v2) :
    Calls Try.prog 5 #[.int .i64 n, v0, v1, v2] w fun e w' => e = .returned (.bool true) ∧ Below w.heap.size w w' := by
  obtain ⟨A, nw, c, low, rfl, ha, _⟩ := h0
  obtain ⟨A', nl, c', xs, rfl, hx, _⟩ := h1
  obtain ⟨A2, nm, c2, ys, rfl, hy, _⟩ := h2
  exact walkA_leastAgain n A nw c low A' nl c' xs A2 nm c2 ys w ha hx hy

/-! ### the row's step -/
namespace leastAgain
set_option maxRecDepth 100000 in
theorem lifted (os : Os) (started : os.Started) (H : Type) (enc : TypeId × Value → H) :
    ReturnsInHanded {} Try.checked os 5 .any (Rows.leastAgainSpec.pre6 enc Try.prog Try.f5 Rows.leastAgainRow.domain false) (Rows.leastAgainSpec.post enc Try.prog Try.f5 false true false false) := by
  refine returnsInHanded_of_change_sized (C := Try.checked) own started (by kernel_rfl) Try.func5
    (ChangeSpec.witness6 (enc := enc) (C := Try.checked) false ⟨#[], #[.int .i64 0, .slice none 0 0, .slice none 0 0, .slice none 0 0], []⟩ 8 (by kernel_rfl) (by kernel_rfl) (by kernel_rfl) (by kernel_rfl)) ?_
  intro W base args ds gs before hval0 hW hcnd hsz0 _
  have hsz : (DataW.weightsEach Try.prog (Try.f5.params.toList ++ Rows.leastAgainSpec.plain.varTypes Try.prog) (ds ++ gs)).all (· ≤ reachBytes) = true := hsz0
  have hval : ∀ (j : Nat) t v, Try.f5.params[j]? = some t → args[j]? = some v → Value.okWide Try.prog W .any base t v := hval0
  have hW' := hW
  obtain ⟨p, q, hA0, hV, rfl, hfz, hnd⟩ := hW
  have hA : DataW.TrodAll enc Try.prog W 0 (fun _ => true) true Try.f5.params.toList args.toList ds p := hA0
  rw [Try.params5] at hA hval hsz
  obtain ⟨v0, vs0, d0, ds0, p0, q0, hargs, rfl, rfl, h0, r_0⟩ := trodAll_cons hA
  obtain ⟨v1, vs1, d1, ds1, p1, q1, rfl, rfl, rfl, h1, r_1⟩ := trodAll_cons r_0
  obtain ⟨v2, vs2, d2, ds2, p2, q2, rfl, rfl, rfl, h2, r_2⟩ := trodAll_cons r_1
  obtain ⟨v3, vs3, d3, ds3, p3, q3, rfl, rfl, rfl, h3, r_3⟩ := trodAll_cons r_2
  obtain ⟨rfl, rfl, rfl⟩ := trodAll_nil r_3
  obtain rfl : args = #[v0, v1, v2, v3] := by cases args; simp_all
  obtain ⟨rfl, rfl⟩ := trodVars_none hV
  obtain ⟨a0, rfl, _, _, w0⟩ := open_int Try.underlying3 (hval 0 3 v0 rfl rfl) h0
  have b0 := bounds_i64 w0
  have w1 := rd_mults (hval 1 22 v1 rfl rfl) h1
  have w2 := rd_ineqs (hval 2 35 v2 rfl rfl) h2
  have w3 := rd_ineqs (hval 3 35 v3 rfl rfl) h3
  refine (walk_leastAgain (w := W) a0 b0 v1 w1 v2 w2 v3 w3).mono fun e W' ⟨he, bel⟩ => ?_
  subst he
  exact ⟨_, rfl, law_post laidOut (by kernel_rfl) rfl rfl Try.underlying4 hW' rfl rfl rfl bel⟩
theorem over : Rows.leastAgainRow.holds Try.pinned (OpenSpec.ofChange Rows.leastAgainSpec) :=
  OpenClaim.holds_of_wide 5 Try.f5 rfl rfl rfl rfl rfl rfl rfl ⟨rfl, rfl, rfl, rfl, rfl⟩ rfl rfl rfl rfl rfl (by kernel_rfl) Try.func5 (by kernel_rfl)
    (of_decide_eq_true (by kernel_rfl)) (by unfold Func.isWrapper; first | (rw [if_pos (by decide +kernel)]; kernel_rfl) | (rw [if_neg (by decide +kernel)]; exact ⟨rfl, rfl⟩))
    (fun os started H enc _ => lifted os started H enc)
/-- the statement -/
theorem proved : Rows.LeastAgainSaid := over
#print axioms proved
end leastAgain
end Go.Proofs.Ythabkpkgocafoaa
