/- UsesMean holds for every input: under any assignment, for any variable, what is told of joined, summed, scaled uses is joined, summed, scaled of what is told of each. No conditions. -/
import Derived.Test.YtimlbpjdgnapoaaLawZ
import Derived.Test.YtimlbpjdgnapoaaM11
import Derived.Deep.RegionHeld3
namespace Go.Proofs.Ytimlbpjdgnapoaa
set_option linter.unusedVariables false
set_option linter.unusedSimpArgs false
open Go.ChangeShapes Go.WideShapes Go.ChangeAt Go.RowKit

theorem vars_two {a b : List UseD} (h : SmallU [a, b]) : (varsOf [a, b]).length ≤ 1048576 := by
  have h1 := h.len a (by simp)
  have h2 := h.len b (by simp)
  simp [varsOf]; omega
theorem uses2 (w : World) (x y : Int) : Rd (w.alloc (Obj.cells #[.int .u8 x, .int .u8 y] 62)) (w.heap.size + 1) 1 (some ⟨w.heap.size, 0, none⟩) 2 ([x, y].map (Value.int .u8)) := Rd.new w [.int .u8 x, .int .u8 y] 62
theorem join2M (w : World) (x y : Int) :
    Calls Try.prog 36 #[.slice (some ⟨w.heap.size, 0, none⟩) 2 2] (w.alloc (Obj.cells #[.int .u8 x, .int .u8 y] 62)) fun e w' => e = .returned (.int .u8 (joinI [x, y])) ∧ Below w.heap.size w w' :=
  (join_any _ 2 2 _ [x, y] _ (uses2 w x y) (by omega)).mono fun e w' ⟨h1, h2⟩ => ⟨h1, by rw [← h2]; exact below_box _⟩
theorem sum2M (w : World) (x y : Int) :
    Calls Try.prog 37 #[.slice (some ⟨w.heap.size, 0, none⟩) 2 2] (w.alloc (Obj.cells #[.int .u8 x, .int .u8 y] 62)) fun e w' => e = .returned (.int .u8 (sumI [x, y])) ∧ Below w.heap.size w w' :=
  (sum_any _ 2 2 _ [x, y] _ (uses2 w x y) (by omega)).mono fun e w' ⟨h1, h2⟩ => ⟨h1, by rw [← h2]; exact below_box _⟩
/-- uses.At in the world at hand -/
theorem atU_in {w0 w : World} {l lt lm} (st : StV w0 w l lt lm) (A : Option Addr) (n c : Nat) (xs : List UseD) (hm : (A, n, c, xs) ∈ l) (v : Int) (hv : -9223372036854775808 ≤ v ∧ v ≤ 9223372036854775807) (A' : Option Addr) (n' c' : Nat) (asg : List Int) (ha : RdI .u8 w0 w0.heap.size A' n' c' asg) (p E : Int) (he : atU xs v asg = (p, E)) :
    Calls Try.prog 35 #[.slice A n c, .int .i64 v, .slice A' n' c'] w fun e w' => e = .returned (.tuple #[.int .u8 p, .int .i64 E]) ∧ StV w0 w' l lt lm := by
  have := atU_any v A n c xs A' n' c' asg w (st.get A n c xs hm) ((ha.below st.bel).more st.bel.size) hv
  rw [he] at this
  exact this.mono fun e w' ⟨h1, h2⟩ => ⟨h1, st.below h2⟩

theorem rd_lone (w : World) (x : Int) : RdI .i64 (w.alloc (Obj.cells #[.int .i64 x] 3)) (w.alloc (Obj.cells #[.int .i64 x] 3)).heap.size (some ⟨w.heap.size, 0, none⟩) 1 1 [x] :=
  ⟨by have := Rd.new w [.int .i64 x] 3; rw [World.size_alloc]; exact this, Nat.le_refl _, by unfold maxLen; omega⟩

set_option maxRecDepth 100000 in
set_option maxHeartbeats 16000000 in
theorem walkA_usesMean (A : Option Addr) (n c : Nat) (xs : List UseD) (A' : Option Addr) (n' c' : Nat) (ys : List UseD) (V C : Int) (t : TermD) (A0 : Option Addr) (n0 c0 : Nat) (v : Int) (hv : -9223372036854775808 ≤ v ∧ v ≤ 9223372036854775807) (A5 : Option Addr) (n5 c5 : Nat) (asg : List Int) (w : World) (hC : 0 ≤ C ∧ C ≤ 255)
    (hx : UsesV w w.heap.size A n c xs) (hy : UsesV w w.heap.size A' n' c' ys) (ht : RdI .i64 w w.heap.size A0 n0 c0 t.vars) (ha : RdI .u8 w w.heap.size A5 n5 c5 asg) (hnx : n ≤ 4398046511104) (hny : n' ≤ 4398046511104) :
    Calls Try.prog 7 #[.slice A n c, .slice A' n' c', .agg #[.int .i64 V, .int .u8 C], .agg #[.bool t.never, .int .u8 t.c, .slice A0 n0 c0], .int .i64 v, .slice A5 n5 c5] w fun e w' => e = .returned (.bool true) ∧ Below w.heap.size w w' := by
  have hmx := @run_max2 Try.prog
  have hn63 : n0 ≤ 9223372036854775807 := Nat.le_trans ht.2.1 ht.2.2
  have htl := ht.len
  have st0 : StV w w [(A, n, c, xs), (A', n', c', ys)] [] [] := ⟨((StU.start w).add hy).add hx, by simp, by simp⟩
  have st1 := st0.newM V C
  have hbm := below_box (w := w) (Obj.cells #[.int .i64 V, .int .u8 C] 46)
  have st := st1.newT t ((ht.below hbm).more hbm.size)
  have hg1 : (w.alloc (Obj.cells #[.int .i64 V, .int .u8 C] 46)).heap.size = w.heap.size + 1 := by simp
  rw [hg1] at st
  have hlx := hx.len
  have hly := hy.len
  have hg := fun w1 (st : StV w w1 [(A, n, c, xs), (A', n', c', ys)] [(w.heap.size + 1, t)] [(w.heap.size, V, C)]) => greatU_any _ 2 2 _ _ (ls2_new (st.get A n c xs (by simp)) (st.get A' n' c' ys (by simp))) (by intro l hl; simp at hl; rcases hl with rfl | rfl <;> omega)
  have Hg := Lib.hid hg
  have Hv := Lib.hid hv
  have Ha := Lib.hid ha
  have HC := Lib.hid hC
  clear hg hx hy ht st0 st1 hbm hg1 hlx hly hv ha hC
  obtain ⟨p, hp⟩ : ∃ p, (atU xs v asg).1 = p := ⟨_, rfl⟩
  obtain ⟨E, hE⟩ : ∃ E, (atU xs v asg).2 = E := ⟨_, rfl⟩
  obtain ⟨q, hq⟩ : ∃ p, (atU ys v asg).1 = p := ⟨_, rfl⟩
  obtain ⟨F, hF⟩ : ∃ E, (atU ys v asg).2 = E := ⟨_, rfl⟩
  have Hp : Hid (atU xs v asg = (p, E)) := Lib.hid (Prod.ext hp hE)
  have Hq0 : Hid (atU ys v asg = (q, F)) := Lib.hid (Prod.ext hq hF)
  clear hp hE hq hF
  go_enter Try.func7, Try.ntmps7
  go_wp2_with fail
  obtain ⟨w0, hw0⟩ : ∃ w0, (w.alloc (Obj.cells #[.int .i64 V, .int .u8 C] 46)).alloc (Obj.cells #[.bool t.never, .int .u8 t.c, .slice A0 n0 c0] 37) = w0 := ⟨_, rfl⟩
  have hs0 : w0.heap.size = w.heap.size + 1 + 1 := by rw [← hw0]; simp
  rw [hw0] at st ⊢
  have hgg := Hg.out w0 st
  rw [hs0] at hgg
  clear hw0 hs0
  refine hgg.mono ?_; clear hgg; rintro e w1 ⟨r, rfl, hsm, hb1⟩
  replace st := (st.alloc (Obj.cells #[.slice A n c, .slice A' n' c'] 25)).below hb1
  clear hb1 Hg
  cases r with
  | true =>
    go_wp2_with fail
    refine (worksU_any _).mono ?_; rintro e wz ⟨rfl, hbz⟩
    go_wp2_with fail
    go_ret
    exact ⟨rfl, (st.below hbz).bel⟩
  | false =>
    have hs := hsm rfl
    have Hs := Lib.hid hs
    clear hsm hs
    obtain ⟨At, nt, ct, t0, t1, t2, hrt, hlt⟩ := st.valT (w.heap.size + 1) t (by simp)
    have hntl := hrt.len
    by_cases h500 : 500 < nt
    · have d0 : decide ((nt : Int) > 500) = true := by simp; omega
      go_wp2_with fail
      clear t0 t1 t2 hrt
      refine (worksU_any _).mono ?_; rintro e wz ⟨rfl, hbz⟩
      go_wp2_with fail
      go_ret
      exact ⟨rfl, (st.below hbz).bel⟩
    · have d0 : decide ((nt : Int) > 500) = false := by simp; omega
      have Hvt : Hid (t.vars.length ≤ 500) := Lib.hid (by omega)
      clear hrt hlt hntl
      go_wp2_with fail
      clear t0 t1 t2 d0 h500
      refine (atU_in st A n c xs (by simp) v Hv.out A5 n5 c5 asg Ha.out p E Hp.out).mono ?_; rintro e w2 ⟨rfl, st2⟩
      clear st
      go_wp2_with fail
      refine (atU_in st2 A' n' c' ys (by simp) v Hv.out A5 n5 c5 asg Ha.out q F Hq0.out).mono ?_; rintro e w3 ⟨rfl, st⟩
      clear st2
      by_cases hE : E = 0
      · have dE : (E != 0) = false := by simp [hE]
        by_cases hF : F = 0
        · have dF : (F != 0) = false := by simp [hF]
          have hz1 := atU_zero (xs := xs) (v := v) (asg := asg) (by rw [Hp.out]; exact hE)
          have hz2 := atU_zero (xs := ys) (v := v) (asg := asg) (by rw [Hq0.out]; exact hF)
          have Gx := Lib.hid hz1.1
          have Gy := Lib.hid hz2.1
          have Fx := Lib.hid hz1.2.1
          have Fy := Lib.hid hz2.2.1
          have Px : Hid (valT asg (ofU xs v) = p) := Lib.hid (by rw [hz1.2.2, Hp.out])
          have Py : Hid (valT asg (ofU ys v) = q) := Lib.hid (by rw [hz2.2.2, Hq0.out])
          have hmj := mean_join Gx.out Gy.out Fx.out Fy.out
          have hms := mean_sum Gx.out Gy.out Fx.out Fy.out
          rw [Px.out, Py.out] at hmj hms
          have Hmj := Lib.hid hmj
          have Hms := Lib.hid hms
          clear hz1 hz2 hmj hms hE hF Hp Hq0
          have hq := joinU2_all _ 2 2 xs ys _ (ls2_new (st.get A n c xs (by simp)) (st.get A' n' c' ys (by simp))) (by omega) (vars_two Hs.out) true true Gx.out.mayU Gy.out.mayU
          have Hq := Lib.hid hq
          replace st := st.alloc (Obj.cells #[.slice A n c, .slice A' n' c'] 25)
          clear hq
          go_wp2_with fail
          clear dE dF
          refine Hq.out.mono ?_; rintro e w4 ⟨Ax, nx, cx, rfl, hr2, hb2⟩
          replace st := (st.below hb2).add hr2
          clear hb2 hr2 Hq
          have hq := sumU2_all _ 2 2 xs ys _ (ls2_new (st.get A n c xs (by simp)) (st.get A' n' c' ys (by simp))) (by omega) (vars_two Hs.out) true true Gx.out.mayU Gy.out.mayU
          have Hq := Lib.hid hq
          replace st := st.alloc (Obj.cells #[.slice A n c, .slice A' n' c'] 25)
          clear hq
          go_wp2_with fail
          refine Hq.out.mono ?_; rintro e w5 ⟨Ay, ny, cy, rfl, hr3, hb3⟩
          replace st := (st.below hb3).add hr3
          clear hb3 hr3 Hq
          go_wp2_with fail
          refine (atU_in st Ax nx cx (eachU joinT [xs, ys]) (by simp) v Hv.out A5 n5 c5 asg Ha.out _ _ Hmj.out).mono ?_; rintro e w6 ⟨rfl, st2⟩
          clear st
          go_wp2_with fail
          refine (atU_in st2 Ay ny cy (eachU sumT [xs, ys]) (by simp) v Hv.out A5 n5 c5 asg Ha.out _ _ Hms.out).mono ?_; rintro e w7 ⟨rfl, st⟩
          clear st2 Hmj Hms
          obtain ⟨j, hj⟩ : ∃ j, joinI [p, q] = j := ⟨_, rfl⟩
          obtain ⟨s, hs⟩ : ∃ j, sumI [p, q] = j := ⟨_, rfl⟩
          have hjm := join2M w7 p q
          rw [hj] at hjm ⊢
          rw [hs]
          have Hjm := Lib.hid hjm
          have Hsj := Lib.hid hs
          have dj : (j != j) = false := by simp
          have ds : (s != s) = false := by simp
          clear hj hs hjm
          go_wp2_with fail
          refine Hjm.out.mono ?_; rintro e w8 ⟨rfl, hb8⟩
          replace st := st.below hb8
          have hsm2 := sum2M w8 p q
          rw [Hsj.out] at hsm2
          have Hsm2 := Lib.hid hsm2
          clear hb8 Hjm hsm2
          go_wp2_with fail
          refine Hsm2.out.mono ?_; rintro e w9 ⟨rfl, hb9⟩
          replace st := st.below hb9
          clear hb9 Hsm2 Hsj
          obtain ⟨m0, m1⟩ := st.valM w.heap.size V C (by simp)
          have hgm : w.heap.size < w9.heap.size := (st.mu (w.heap.size, V, C) (by simp)).lt
          have hbS : Below w9.heap.size w9 w9.drew := (Below.refl _ _).drew
          obtain ⟨u, hu⟩ : ∃ u, (atR ⟨false, max C 1, [V]⟩ asg).1 = u := ⟨_, rfl⟩
          obtain ⟨Eu, hEu⟩ : ∃ u, (atR ⟨false, max C 1, [V]⟩ asg).2 = u := ⟨_, rfl⟩
          have Hu := Lib.hid hu
          have HEu := Lib.hid hEu
          have Hst := Lib.hid st
          clear hu hEu st
          have hfd : ∀ W : World, (Instr.field 37 (.agg #[.bool false, .int .u8 1, .slice (some ⟨w9.heap.size, 0, none⟩) 1 1]) 2).run Try.prog W = .ok (.slice (some ⟨w9.heap.size, 0, none⟩) 1 1) W := fun _ => by kernel_rfl
          go_wp2_with fail
          go_region_held3 (fun w' => w'.cell? ⟨w.heap.size, 0, none⟩ = some (.int .i64 V) ∧ w'.cell? ⟨w.heap.size, 1, none⟩ = some (.int .u8 C))
            (first | go_keep | exact ⟨(hbS.cell (p := ⟨w.heap.size, 0, none⟩) hgm).trans m0, (hbS.cell (p := ⟨w.heap.size, 1, none⟩) hgm).trans m1⟩)
            ((first
              | (go_at_call 23; have hbA := (below_box (w := w9) (Obj.cells #[.int .i64 V] 3)).drew; have hrv := (rd_lone w9 V).below ((Below.refl _ _).drew); refine (one_any_u _ _ _ _ _).mono ?_; rintro e wx ⟨rfl, hbx⟩; replace hrv := (hrv.below hbx).more hbx.size; replace hbS := hbA.trans (hbx.mono hbA.size); clear hbA hbx)
              | (go_at_call 38; have hbw := Hst.out.bel.trans (hbS.mono Hst.out.bel.size); have hat := at_any (.agg #[.bool false, .int .u8 (max C 1), .slice (some ⟨w9.heap.size, 0, none⟩) 1 1]) ⟨false, max C 1, [V]⟩ A5 n5 c5 asg wx _ _ ⟨_, 1, 1, rfl, hrv⟩ (Nat.le_refl _) ((Ha.out.below hbw).more hbw.size) (Nat.le_refl _); rw [Hu.out, HEu.out] at hat; refine hat.mono ?_; clear hat hbw hrv; rintro e wy ⟨rfl, hbx⟩; replace hbS := hbS.trans (hbx.mono hbS.size); clear hbx)))
          all_goals
            have st := Hst.out.below hbS
            clear Hst m0 m1 hgm hbS
            obtain ⟨m0, m1⟩ := st.valM w.heap.size V C (by simp)
            by_cases hC0 : C = 0
            · subst hC0
              by_cases hEu0 : Eu = 0
              · subst hEu0
                have hm1 : max (0 : Int) 1 = 1 := by decide
                have hms := mean_scale (xs := xs) (V := V) (v := v) (asg := asg) Gx.out Fx.out (by have := HEu.out; rwa [hm1] at this)
                rw [Px.out, show (atR ⟨false, 1, [V]⟩ asg).1 = u from by have := Hu.out; rwa [hm1] at this] at hms
                have Hms := Lib.hid hms.2
                have hq := scaleU_yes 0 V A n c xs wy (st.get A n c xs (by simp)) hms.1 Gx.out.mayU
                have Hq := Lib.hid hq
                clear hms hq hm1 HEu Hu
                go_wp2_with fail
                refine Hq.out.mono ?_; rintro e w20 ⟨A20, n20, c20, rfl, hr20, hb20⟩
                replace st := (st.below hb20).add hr20
                clear hb20 hr20 Hq m0 m1
                go_wp2_with fail
                refine (atU_in st A20 n20 c20 (scaleU 0 V xs) (by simp) v Hv.out A5 n5 c5 asg Ha.out _ _ Hms.out).mono ?_; rintro e w21 ⟨rfl, st2⟩
                clear st
                go_wp2_with fail
                refine (least_any u _).mono ?_; rintro e w22 ⟨rfl, rfl⟩
                go_wp2_with fail
                refine (scale_any (leastI u) p _).mono ?_; rintro e w23 ⟨rfl, rfl⟩
                obtain ⟨J, hJ⟩ : ∃ J, scaleI (leastI u) p = J := ⟨_, rfl⟩
                rw [hJ]
                have dJ : (J != J) = false := by simp
                have st := st2
                clear st2 hJ
                obtain ⟨At, nt, ct, t0, t1, t2, hrt, hlt⟩ := st.valT (w.heap.size + 1) t (by simp)
                have hq := least_any_t (.agg #[.bool t.never, .int .u8 t.c, .slice At nt ct]) t _ _ ⟨At, nt, ct, rfl, hrt⟩ (Nat.le_refl _) (by have := Hvt.out; omega)
                have Hq := Lib.hid hq
                clear hq hrt hlt
                go_wp2_with fail
                clear t0 t1 t2
                refine Hq.out.mono ?_; rintro e w30 ⟨A30, n30, c30, rfl, hr30, hb30⟩
                replace st := st.below hb30
                clear hb30 Hq
                have hq := at_any (.agg #[.bool (leastT t).never, .int .u8 (leastT t).c, .slice A30 n30 c30]) (leastT t) A5 n5 c5 asg w30 _ _ ⟨A30, n30, c30, rfl, hr30⟩ (Nat.le_refl _) ((Ha.out.below st.bel).more st.bel.size) (Nat.le_refl _)
                obtain ⟨K, hK⟩ : ∃ K, (atR (leastT t) asg).1 = K := ⟨_, rfl⟩
                obtain ⟨Ek, hEk⟩ : ∃ E, (atR (leastT t) asg).2 = E := ⟨_, rfl⟩
                rw [hK, hEk] at hq
                have Hq := Lib.hid hq
                have HK := Lib.hid hK
                have HEk := Lib.hid hEk
                clear hq hr30 hK hEk
                go_wp2_with fail
                refine Hq.out.mono ?_; rintro e w31 ⟨rfl, hb31⟩
                replace st := st.below hb31
                clear hb31 Hq
                by_cases hek : Ek = 0
                · have dk : (Ek != 0) = false := by simp [hek]
                  obtain ⟨At, nt, ct, t0, t1, t2, hrt, hlt⟩ := st.valT (w.heap.size + 1) t (by simp)
                  have hq := may_any (.agg #[.bool t.never, .int .u8 t.c, .slice At nt ct]) t w31 _ ⟨At, nt, ct, rfl, hrt⟩ (Nat.le_refl _)
                  obtain ⟨T, hT⟩ : ∃ T, mayB t = T := ⟨_, rfl⟩
                  rw [show mayE t = if T then 0 else 2 from by rw [← hT]; rfl] at hq
                  have HT := Lib.hid hT
                  clear hT hrt hlt
                  cases T with
                  | false =>
                    have Hq := Lib.hid hq
                    clear hq hek
                    go_wp2_with fail
                    clear t0 t1 t2
                    refine Hq.out.mono ?_; rintro e w32 ⟨rfl, hb32⟩
                    replace st := st.below hb32
                    go_wp2_with fail
                    refine (worksU_any _).mono ?_; rintro e wz ⟨rfl, hbz⟩
                    go_wp2_with fail
                    go_ret
                    exact ⟨rfl, (st.below hbz).bel⟩
                  | true =>
                    have hfl : Fine asg (leastT t) := fine_of_at (by rw [HEk.out]; exact hek)
                    have hmt := mean_times Gx.out Fx.out HT.out hfl
                    rw [Px.out, show valT asg (leastT t) = K from by rw [← HK.out, fine_at hfl]] at hmt
                    have Hmt := Lib.hid hmt
                    have Hq := Lib.hid hq
                    clear hq hek hfl hmt
                    go_wp2_with fail
                    clear t0 t1 t2
                    refine Hq.out.mono ?_; rintro e w32 ⟨rfl, hb32⟩
                    replace st := st.below hb32
                    clear hb32 Hq
                    obtain ⟨At, nt, ct, t0, t1, t2, hrt, hlt⟩ := st.valT (w.heap.size + 1) t (by simp)
                    have hq := times_yes At nt ct t A n c xs w32 hrt (st.get A n c xs (by simp)) HT.out Gx.out.mayU
                    have Hq := Lib.hid hq
                    clear hq hrt hlt
                    go_wp2_with fail
                    clear t0 t1 t2
                    refine Hq.out.mono ?_; rintro e w33 ⟨A33, n33, c33, rfl, hr33, hb33⟩
                    replace st := (st.below hb33).add hr33
                    clear hb33 hr33 Hq
                    go_wp2_with fail
                    refine (atU_in st A33 n33 c33 (timesU t xs) (by simp) v Hv.out A5 n5 c5 asg Ha.out _ _ Hmt.out).mono ?_; rintro e w34 ⟨rfl, st2⟩
                    clear st
                    go_wp2_with fail
                    refine (least_any K _).mono ?_; rintro e w35 ⟨rfl, rfl⟩
                    go_wp2_with fail
                    refine (scale_any (leastI K) p _).mono ?_; rintro e w36 ⟨rfl, rfl⟩
                    obtain ⟨J, hJ⟩ : ∃ J, scaleI (leastI K) p = J := ⟨_, rfl⟩
                    rw [hJ]
                    have dj : (J == J) = true := by simp
                    go_wp2_with fail
                    refine (worksU_any _).mono ?_; rintro e wz ⟨rfl, hbz⟩
                    go_wp2_with fail
                    go_ret
                    exact ⟨rfl, (st2.below hbz).bel⟩
                · have dk : (Ek != 0) = true := by simp [hek]
                  go_wp2_with fail
                  refine (worksU_any _).mono ?_; rintro e wz ⟨rfl, hbz⟩
                  go_wp2_with fail
                  go_ret
                  exact ⟨rfl, (st.below hbz).bel⟩
              · have dU : (Eu == 0) = false := by simp [hEu0]
                clear HEu Hu
                obtain ⟨At, nt, ct, t0, t1, t2, hrt, hlt⟩ := st.valT (w.heap.size + 1) t (by simp)
                have hq := least_any_t (.agg #[.bool t.never, .int .u8 t.c, .slice At nt ct]) t _ _ ⟨At, nt, ct, rfl, hrt⟩ (Nat.le_refl _) (by have := Hvt.out; omega)
                have Hq := Lib.hid hq
                clear hq hrt hlt
                go_wp2_with fail
                clear t0 t1 t2
                refine Hq.out.mono ?_; rintro e w30 ⟨A30, n30, c30, rfl, hr30, hb30⟩
                replace st := st.below hb30
                clear hb30 Hq
                have hq := at_any (.agg #[.bool (leastT t).never, .int .u8 (leastT t).c, .slice A30 n30 c30]) (leastT t) A5 n5 c5 asg w30 _ _ ⟨A30, n30, c30, rfl, hr30⟩ (Nat.le_refl _) ((Ha.out.below st.bel).more st.bel.size) (Nat.le_refl _)
                obtain ⟨K, hK⟩ : ∃ K, (atR (leastT t) asg).1 = K := ⟨_, rfl⟩
                obtain ⟨Ek, hEk⟩ : ∃ E, (atR (leastT t) asg).2 = E := ⟨_, rfl⟩
                rw [hK, hEk] at hq
                have Hq := Lib.hid hq
                have HK := Lib.hid hK
                have HEk := Lib.hid hEk
                clear hq hr30 hK hEk
                go_wp2_with fail
                refine Hq.out.mono ?_; rintro e w31 ⟨rfl, hb31⟩
                replace st := st.below hb31
                clear hb31 Hq
                by_cases hek : Ek = 0
                · have dk : (Ek != 0) = false := by simp [hek]
                  obtain ⟨At, nt, ct, t0, t1, t2, hrt, hlt⟩ := st.valT (w.heap.size + 1) t (by simp)
                  have hq := may_any (.agg #[.bool t.never, .int .u8 t.c, .slice At nt ct]) t w31 _ ⟨At, nt, ct, rfl, hrt⟩ (Nat.le_refl _)
                  obtain ⟨T, hT⟩ : ∃ T, mayB t = T := ⟨_, rfl⟩
                  rw [show mayE t = if T then 0 else 2 from by rw [← hT]; rfl] at hq
                  have HT := Lib.hid hT
                  clear hT hrt hlt
                  cases T with
                  | false =>
                    have Hq := Lib.hid hq
                    clear hq hek
                    go_wp2_with fail
                    clear t0 t1 t2
                    refine Hq.out.mono ?_; rintro e w32 ⟨rfl, hb32⟩
                    replace st := st.below hb32
                    go_wp2_with fail
                    refine (worksU_any _).mono ?_; rintro e wz ⟨rfl, hbz⟩
                    go_wp2_with fail
                    go_ret
                    exact ⟨rfl, (st.below hbz).bel⟩
                  | true =>
                    have hfl : Fine asg (leastT t) := fine_of_at (by rw [HEk.out]; exact hek)
                    have hmt := mean_times Gx.out Fx.out HT.out hfl
                    rw [Px.out, show valT asg (leastT t) = K from by rw [← HK.out, fine_at hfl]] at hmt
                    have Hmt := Lib.hid hmt
                    have Hq := Lib.hid hq
                    clear hq hek hfl hmt
                    go_wp2_with fail
                    clear t0 t1 t2
                    refine Hq.out.mono ?_; rintro e w32 ⟨rfl, hb32⟩
                    replace st := st.below hb32
                    clear hb32 Hq
                    obtain ⟨At, nt, ct, t0, t1, t2, hrt, hlt⟩ := st.valT (w.heap.size + 1) t (by simp)
                    have hq := times_yes At nt ct t A n c xs w32 hrt (st.get A n c xs (by simp)) HT.out Gx.out.mayU
                    have Hq := Lib.hid hq
                    clear hq hrt hlt
                    go_wp2_with fail
                    clear t0 t1 t2
                    refine Hq.out.mono ?_; rintro e w33 ⟨A33, n33, c33, rfl, hr33, hb33⟩
                    replace st := (st.below hb33).add hr33
                    clear hb33 hr33 Hq
                    go_wp2_with fail
                    refine (atU_in st A33 n33 c33 (timesU t xs) (by simp) v Hv.out A5 n5 c5 asg Ha.out _ _ Hmt.out).mono ?_; rintro e w34 ⟨rfl, st2⟩
                    clear st
                    go_wp2_with fail
                    refine (least_any K _).mono ?_; rintro e w35 ⟨rfl, rfl⟩
                    go_wp2_with fail
                    refine (scale_any (leastI K) p _).mono ?_; rintro e w36 ⟨rfl, rfl⟩
                    obtain ⟨J, hJ⟩ : ∃ J, scaleI (leastI K) p = J := ⟨_, rfl⟩
                    rw [hJ]
                    have dj : (J == J) = true := by simp
                    go_wp2_with fail
                    refine (worksU_any _).mono ?_; rintro e wz ⟨rfl, hbz⟩
                    go_wp2_with fail
                    go_ret
                    exact ⟨rfl, (st2.below hbz).bel⟩
                · have dk : (Ek != 0) = true := by simp [hek]
                  go_wp2_with fail
                  refine (worksU_any _).mono ?_; rintro e wz ⟨rfl, hbz⟩
                  go_wp2_with fail
                  go_ret
                  exact ⟨rfl, (st.below hbz).bel⟩
            · have dC : (C == 0) = false := by simp [hC0]
              clear HEu Hu
              obtain ⟨At, nt, ct, t0, t1, t2, hrt, hlt⟩ := st.valT (w.heap.size + 1) t (by simp)
              have hq := least_any_t (.agg #[.bool t.never, .int .u8 t.c, .slice At nt ct]) t _ _ ⟨At, nt, ct, rfl, hrt⟩ (Nat.le_refl _) (by have := Hvt.out; omega)
              have Hq := Lib.hid hq
              clear hq hrt hlt
              go_wp2_with fail
              clear t0 t1 t2
              refine Hq.out.mono ?_; rintro e w30 ⟨A30, n30, c30, rfl, hr30, hb30⟩
              replace st := st.below hb30
              clear hb30 Hq
              have hq := at_any (.agg #[.bool (leastT t).never, .int .u8 (leastT t).c, .slice A30 n30 c30]) (leastT t) A5 n5 c5 asg w30 _ _ ⟨A30, n30, c30, rfl, hr30⟩ (Nat.le_refl _) ((Ha.out.below st.bel).more st.bel.size) (Nat.le_refl _)
              obtain ⟨K, hK⟩ : ∃ K, (atR (leastT t) asg).1 = K := ⟨_, rfl⟩
              obtain ⟨Ek, hEk⟩ : ∃ E, (atR (leastT t) asg).2 = E := ⟨_, rfl⟩
              rw [hK, hEk] at hq
              have Hq := Lib.hid hq
              have HK := Lib.hid hK
              have HEk := Lib.hid hEk
              clear hq hr30 hK hEk
              go_wp2_with fail
              refine Hq.out.mono ?_; rintro e w31 ⟨rfl, hb31⟩
              replace st := st.below hb31
              clear hb31 Hq
              by_cases hek : Ek = 0
              · have dk : (Ek != 0) = false := by simp [hek]
                obtain ⟨At, nt, ct, t0, t1, t2, hrt, hlt⟩ := st.valT (w.heap.size + 1) t (by simp)
                have hq := may_any (.agg #[.bool t.never, .int .u8 t.c, .slice At nt ct]) t w31 _ ⟨At, nt, ct, rfl, hrt⟩ (Nat.le_refl _)
                obtain ⟨T, hT⟩ : ∃ T, mayB t = T := ⟨_, rfl⟩
                rw [show mayE t = if T then 0 else 2 from by rw [← hT]; rfl] at hq
                have HT := Lib.hid hT
                clear hT hrt hlt
                cases T with
                | false =>
                  have Hq := Lib.hid hq
                  clear hq hek
                  go_wp2_with fail
                  clear t0 t1 t2
                  refine Hq.out.mono ?_; rintro e w32 ⟨rfl, hb32⟩
                  replace st := st.below hb32
                  go_wp2_with fail
                  refine (worksU_any _).mono ?_; rintro e wz ⟨rfl, hbz⟩
                  go_wp2_with fail
                  go_ret
                  exact ⟨rfl, (st.below hbz).bel⟩
                | true =>
                  have hfl : Fine asg (leastT t) := fine_of_at (by rw [HEk.out]; exact hek)
                  have hmt := mean_times Gx.out Fx.out HT.out hfl
                  rw [Px.out, show valT asg (leastT t) = K from by rw [← HK.out, fine_at hfl]] at hmt
                  have Hmt := Lib.hid hmt
                  have Hq := Lib.hid hq
                  clear hq hek hfl hmt
                  go_wp2_with fail
                  clear t0 t1 t2
                  refine Hq.out.mono ?_; rintro e w32 ⟨rfl, hb32⟩
                  replace st := st.below hb32
                  clear hb32 Hq
                  obtain ⟨At, nt, ct, t0, t1, t2, hrt, hlt⟩ := st.valT (w.heap.size + 1) t (by simp)
                  have hq := times_yes At nt ct t A n c xs w32 hrt (st.get A n c xs (by simp)) HT.out Gx.out.mayU
                  have Hq := Lib.hid hq
                  clear hq hrt hlt
                  go_wp2_with fail
                  clear t0 t1 t2
                  refine Hq.out.mono ?_; rintro e w33 ⟨A33, n33, c33, rfl, hr33, hb33⟩
                  replace st := (st.below hb33).add hr33
                  clear hb33 hr33 Hq
                  go_wp2_with fail
                  refine (atU_in st A33 n33 c33 (timesU t xs) (by simp) v Hv.out A5 n5 c5 asg Ha.out _ _ Hmt.out).mono ?_; rintro e w34 ⟨rfl, st2⟩
                  clear st
                  go_wp2_with fail
                  refine (least_any K _).mono ?_; rintro e w35 ⟨rfl, rfl⟩
                  go_wp2_with fail
                  refine (scale_any (leastI K) p _).mono ?_; rintro e w36 ⟨rfl, rfl⟩
                  obtain ⟨J, hJ⟩ : ∃ J, scaleI (leastI K) p = J := ⟨_, rfl⟩
                  rw [hJ]
                  have dj : (J == J) = true := by simp
                  go_wp2_with fail
                  refine (worksU_any _).mono ?_; rintro e wz ⟨rfl, hbz⟩
                  go_wp2_with fail
                  go_ret
                  exact ⟨rfl, (st2.below hbz).bel⟩
              · have dk : (Ek != 0) = true := by simp [hek]
                go_wp2_with fail
                refine (worksU_any _).mono ?_; rintro e wz ⟨rfl, hbz⟩
                go_wp2_with fail
                go_ret
                exact ⟨rfl, (st.below hbz).bel⟩
        · have dF : (F != 0) = true := by simp [hF]
          have dE' := dE
          clear hF
          go_wp2_with fail
          refine (worksU_any _).mono ?_; rintro e wz ⟨rfl, hbz⟩
          go_wp2_with fail
          go_ret
          exact ⟨rfl, (st.below hbz).bel⟩
      · have dE : (E != 0) = true := by simp [hE]
        clear hE
        go_wp2_with fail
        refine (worksU_any _).mono ?_; rintro e wz ⟨rfl, hbz⟩
        go_wp2_with fail
        go_ret
        exact ⟨rfl, (st.below hbz).bel⟩

theorem walk_usesMean {w : World} (v0 : Value) (h0 : UsesIn w v0) (v1 : Value) (h1 : UsesIn w v1) (v2 : Value) (h2 : MuIn v2) (v3 : Value) (h3 : TermW w v3) (v : Int) (hv : -9223372036854775808 ≤ v ∧ v ≤ 9223372036854775807) (v5 : Value) (h5 : MultsIn w v5) :
    Calls Try.prog 7 #[v0, v1, v2, v3, .int .i64 v, v5] w fun e w' => e = .returned (.bool true) ∧ Below w.heap.size w w' := by
  obtain ⟨A, n, c, xs, rfl, hx, hn⟩ := h0
  obtain ⟨A', n', c', ys, rfl, hy, hn'⟩ := h1
  obtain ⟨V, C, rfl, hC0, hC1, _⟩ := h2
  obtain ⟨t, A0, n0, c0, rfl, ht, _, _⟩ := h3
  obtain ⟨A5, n5, c5, asg, rfl, ha, _⟩ := h5
  exact walkA_usesMean A n c xs A' n' c' ys V C t A0 n0 c0 v hv A5 n5 c5 asg w ⟨hC0, hC1⟩ hx hy ht ha hn hn'

/-! ### the row's step -/
namespace usesMean
set_option maxRecDepth 100000 in
theorem lifted (os : Os) (started : os.Started) (H : Type) (enc : TypeId × Value → H) :
    ReturnsInHanded {} Try.checked os 7 .any (Rows.usesMeanSpec.pre6 enc Try.prog Try.f7 Rows.usesMeanRow.domain false) (Rows.usesMeanSpec.post enc Try.prog Try.f7 false true false false) := by
  refine returnsInHanded_of_change_sized (C := Try.checked) own started (by kernel_rfl) Try.func7
    (ChangeSpec.witness6 (enc := enc) (C := Try.checked) false ⟨#[], #[.slice none 0 0, .slice none 0 0, .agg #[.int .i64 0, .int .u8 0], .agg #[.bool false, .int .u8 0, .slice none 0 0], .int .i64 0, .slice none 0 0], []⟩ 8 (by kernel_rfl) (by kernel_rfl) (by kernel_rfl) (by kernel_rfl)) ?_
  intro W base args ds gs before hval0 hW hcnd hsz0 _
  have hsz : (DataW.weightsEach Try.prog (Try.f7.params.toList ++ Rows.usesMeanSpec.plain.varTypes Try.prog) (ds ++ gs)).all (· ≤ reachBytes) = true := hsz0
  have hval : ∀ (j : Nat) t v, Try.f7.params[j]? = some t → args[j]? = some v → Value.okWide Try.prog W .any base t v := hval0
  have hW' := hW
  obtain ⟨p, q, hA0, hV, rfl, hfz, hnd⟩ := hW
  have hA : DataW.TrodAll enc Try.prog W 0 (fun _ => true) true Try.f7.params.toList args.toList ds p := hA0
  rw [Try.params7] at hA hval hsz
  obtain ⟨v0, vs0, d0, ds0, p0, q0, hargs, rfl, rfl, h0, r_0⟩ := trodAll_cons hA
  obtain ⟨v1, vs1, d1, ds1, p1, q1, rfl, rfl, rfl, h1, r_1⟩ := trodAll_cons r_0
  obtain ⟨v2, vs2, d2, ds2, p2, q2, rfl, rfl, rfl, h2, r_2⟩ := trodAll_cons r_1
  obtain ⟨v3, vs3, d3, ds3, p3, q3, rfl, rfl, rfl, h3, r_3⟩ := trodAll_cons r_2
  obtain ⟨v4, vs4, d4, ds4, p4, q4, rfl, rfl, rfl, h4, r_4⟩ := trodAll_cons r_3
  obtain ⟨v5, vs5, d5, ds5, p5, q5, rfl, rfl, rfl, h5, r_5⟩ := trodAll_cons r_4
  obtain ⟨rfl, rfl, rfl⟩ := trodAll_nil r_5
  obtain rfl : args = #[v0, v1, v2, v3, v4, v5] := by cases args; simp_all
  obtain ⟨rfl, rfl⟩ := trodVars_none hV
  have w0 := rd_uses (hval 0 25 v0 rfl rfl) h0 (light_of hsz (j := 0) rfl rfl)
  have w1 := rd_uses (hval 1 25 v1 rfl rfl) h1 (light_of hsz (j := 1) rfl rfl)
  have w2 := rd_mu (hval 2 46 v2 rfl rfl) h2
  have w3 := rd_termw (hval 3 37 v3 rfl rfl) h3 (light_of hsz (j := 3) rfl rfl)
  obtain ⟨a4, rfl, _, _, w4⟩ := open_int Try.underlying3 (hval 4 3 v4 rfl rfl) h4
  have b4 := bounds_i64 w4
  have w5 := rd_mults (hval 5 61 v5 rfl rfl) h5
  refine (walk_usesMean (w := W) v0 w0 v1 w1 v2 w2 v3 w3 a4 b4 v5 w5).mono fun e W' ⟨he, bel⟩ => ?_
  subst he
  exact ⟨_, rfl, law_post laidOut (by kernel_rfl) rfl rfl Try.underlying4 hW' rfl rfl rfl bel⟩
theorem over : Rows.usesMeanRow.holds Try.pinned (OpenSpec.ofChange Rows.usesMeanSpec) :=
  OpenClaim.holds_of_wide 7 Try.f7 rfl rfl rfl rfl rfl rfl rfl ⟨rfl, rfl, rfl, rfl, rfl⟩ rfl rfl rfl rfl rfl (by kernel_rfl) Try.func7 (by kernel_rfl)
    (of_decide_eq_true (by kernel_rfl)) (by unfold Func.isWrapper; first | (rw [if_pos (by decide +kernel)]; kernel_rfl) | (rw [if_neg (by decide +kernel)]; exact ⟨rfl, rfl⟩))
    (fun os started H enc _ => lifted os started H enc)
/-- the statement -/
theorem proved : Rows.UsesMeanSaid := over
#print axioms proved
end usesMean
end Go.Proofs.Ytimlbpjdgnapoaa
