/- UsesOps holds for every input: any uses, any Mu, any term, any variable: joined, summed, scaled, taken as the document says. No conditions. -/
import Derived.Test.YtimlbpjdgnapoaaLawY
import Derived.Test.YtimlbpjdgnapoaaM11
import Derived.Deep.RegionHeld3
namespace Go.Proofs.Ytimlbpjdgnapoaa
set_option linter.unusedVariables false
set_option linter.unusedSimpArgs false
open Go.ChangeShapes Go.WideShapes Go.ChangeAt Go.RowKit

theorem vars_two {a b : List UseD} (h : SmallU [a, b]) : (varsOf [a, b]).length ≤ 1048576 := by
  have h1 := h.len a (by simp)
  have h2 := h.len b (by simp)
  simp [varsOf]; omega
theorem refSame_at {v1 v2 : Value} {t : TermD} {w : World} {B B' : Nat} (h1 : TermV w B v1 t) (h2 : TermV w B' v2 t) (hB : B ≤ w.heap.size) (hB' : B' ≤ w.heap.size) :
    Calls Try.prog 25 #[v1, v2] w fun e w' => e = .returned (.bool true) ∧ Below w.heap.size w w' := by
  have := refSame_any v1 v2 t t w B B' h1 h2 hB hB'
  rwa [show sameB t t = true from (sameB_iff t t).2 rfl] at this
theorem sameR_in {A : Option Addr} {n c : Nat} {A' : Option Addr} {n' c' : Nat} {xs : List UseD} {w : World} (hx : UsesV w w.heap.size A n c xs) (hy : UsesV w w.heap.size A' n' c' xs) :
    Calls Try.prog 15 #[.slice A n c, .slice A' n' c'] w fun e w' => e = .returned (.bool true) ∧ Below w.heap.size w w' :=
  (refSameU_any A n c xs A' n' c' xs w hx hy).mono fun e w' ⟨h1, h2⟩ => ⟨by rw [h1, decide_eq_true rfl], h2⟩

set_option maxRecDepth 100000 in
set_option maxHeartbeats 16000000 in
theorem walkA_usesOps (A : Option Addr) (n c : Nat) (xs : List UseD) (A' : Option Addr) (n' c' : Nat) (ys : List UseD) (V C : Int) (t : TermD) (A0 : Option Addr) (n0 c0 : Nat) (v : Int) (hv : -9223372036854775808 ≤ v ∧ v ≤ 9223372036854775807) (w : World)
    (hx : UsesV w w.heap.size A n c xs) (hy : UsesV w w.heap.size A' n' c' ys) (ht : RdI .i64 w w.heap.size A0 n0 c0 t.vars) (hnx : n ≤ 4398046511104) (hny : n' ≤ 4398046511104) :
    Calls Try.prog 6 #[.slice A n c, .slice A' n' c', .agg #[.int .i64 V, .int .u8 C], .agg #[.bool t.never, .int .u8 t.c, .slice A0 n0 c0], .int .i64 v] w fun e w' => e = .returned (.bool true) ∧ Below w.heap.size w w' := by
  have hn63 : n0 ≤ 9223372036854775807 := Nat.le_trans ht.2.1 ht.2.2
  have htl := ht.len
  have st0 : StV w w [(A, n, c, xs), (A', n', c', ys)] [] [] := ⟨((StU.start w).add hy).add hx, by simp, by simp⟩
  have st1 := st0.newM V C
  have hbm := below_box (w := w) (Obj.cells #[.int .i64 V, .int .u8 C] 46)
  have st := st1.newT t ((ht.below hbm).more hbm.size)
  have hg1 : (w.alloc (Obj.cells #[.int .i64 V, .int .u8 C] 46)).heap.size = w.heap.size + 1 := by simp
  rw [hg1] at st
  have hlx := hx.len
  have hly := hy.len
  have hg := fun w1 (st : StV w w1 [(A, n, c, xs), (A', n', c', ys)] [(w.heap.size + 1, t)] [(w.heap.size, V, C)]) => greatU_any _ 2 2 _ _ (ls2_new (st.get A n c xs (by simp)) (st.get A' n' c' ys (by simp))) (by intro l hl; simp at hl; rcases hl with rfl | rfl <;> omega)
  have Hg := Lib.hid hg
  have Hv := Lib.hid hv
  clear hg hx hy ht st0 st1 hbm hg1 hlx hly hv
  obtain ⟨M1, hM1⟩ : ∃ M, mayU xs = M := ⟨_, rfl⟩
  obtain ⟨M2, hM2⟩ : ∃ M, mayU ys = M := ⟨_, rfl⟩
  obtain ⟨I, hI⟩ : ∃ I, isB C V = I := ⟨_, rfl⟩
  obtain ⟨T, hT⟩ : ∃ T, mayB t = T := ⟨_, rfl⟩
  have HM1 := Lib.hid hM1
  have HM2 := Lib.hid hM2
  have HI := Lib.hid hI
  have HT := Lib.hid hT
  clear hM1 hM2 hI hT
  obtain ⟨X, hX⟩ : ∃ X, (if M1 && M2 then eachU joinT [xs, ys] else []) = X := ⟨_, rfl⟩
  obtain ⟨Y, hY⟩ : ∃ Y, (if M1 && M2 then eachU sumT [xs, ys] else []) = Y := ⟨_, rfl⟩
  obtain ⟨E1, hE1⟩ : ∃ E : Int, (if M1 && M2 then 0 else 2) = E := ⟨_, rfl⟩
  obtain ⟨Z, hZ⟩ : ∃ Z, (if I && M1 then scaleU C V xs else []) = Z := ⟨_, rfl⟩
  obtain ⟨Eg, hEg⟩ : ∃ E : Int, (if I && M1 then 0 else 2) = E := ⟨_, rfl⟩
  obtain ⟨Wt, hWt⟩ : ∃ W, (if T && M1 then timesU t xs else []) = W := ⟨_, rfl⟩
  obtain ⟨Eh, hEh⟩ : ∃ E : Int, (if T && M1 then 0 else 2) = E := ⟨_, rfl⟩
  obtain ⟨U, hU⟩ : ∃ U, (if M1 then ofU xs v else ⟨false, 0, []⟩) = U := ⟨_, rfl⟩
  obtain ⟨R, hR⟩ : ∃ R, (if M1 then xs.filter fun t => t.v != v else []) = R := ⟨_, rfl⟩
  obtain ⟨Ei, hEi⟩ : ∃ E : Int, (if M1 then 0 else 2) = E := ⟨_, rfl⟩
  have HX := Lib.hid hX
  have HY := Lib.hid hY
  have HE1 := Lib.hid hE1
  have HZ := Lib.hid hZ
  have HEg := Lib.hid hEg
  have HWt := Lib.hid hWt
  have HEh := Lib.hid hEh
  have HU := Lib.hid hU
  have HR := Lib.hid hR
  have HEi := Lib.hid hEi
  clear hX hY hE1 hZ hEg hWt hEh hU hR hEi
  go_enter Try.func6, Try.ntmps6
  go_wp2_with fail
  obtain ⟨w0, hw0⟩ : ∃ w0, (w.alloc (Obj.cells #[.int .i64 V, .int .u8 C] 46)).alloc (Obj.cells #[.bool t.never, .int .u8 t.c, .slice A0 n0 c0] 37) = w0 := ⟨_, rfl⟩
  have hs0 : w0.heap.size = w.heap.size + 1 + 1 := by rw [← hw0]; simp
  rw [hw0] at st ⊢
  have hgg := Hg.out w0 st
  rw [hs0] at hgg
  clear hw0 hs0
  refine hgg.mono ?_; clear hgg; rintro e w1 ⟨r, rfl, hsm, hb1⟩
  replace st := (st.alloc (Obj.cells #[.slice A n c, .slice A' n' c'] 25)).below hb1
  clear hb1 Hg
  cases r with
  | true =>
    go_wp2_with fail
    refine (worksU_any _).mono ?_; rintro e wz ⟨rfl, hbz⟩
    go_wp2_with fail
    go_ret
    exact ⟨rfl, (st.below hbz).bel⟩
  | false =>
    have hs := hsm rfl
    have Hs := Lib.hid hs
    clear hsm hs
    obtain ⟨At, nt, ct, t0, t1, t2, hrt, hlt⟩ := st.valT (w.heap.size + 1) t (by simp)
    have hntl := hrt.len
    by_cases h500 : 500 < nt
    · have d0 : decide ((nt : Int) > 500) = true := by simp; omega
      go_wp2_with fail
      clear t0 t1 t2 hrt
      refine (worksU_any _).mono ?_; rintro e wz ⟨rfl, hbz⟩
      go_wp2_with fail
      go_ret
      exact ⟨rfl, (st.below hbz).bel⟩
    · have d0 : decide ((nt : Int) > 500) = false := by simp; omega
      clear hrt hlt
      have hq := joinU2_all _ 2 2 xs ys _ (ls2_new (st.get A n c xs (by simp)) (st.get A' n' c' ys (by simp))) (by omega) (vars_two Hs.out) M1 M2 HM1.out HM2.out
      rw [HX.out, HE1.out] at hq
      have Hq := Lib.hid hq
      replace st := st.alloc (Obj.cells #[.slice A n c, .slice A' n' c'] 25)
      clear hq
      go_wp2_with fail
      clear t0 t1 t2
      refine Hq.out.mono ?_; rintro e w2 ⟨Ax, nx, cx, rfl, hr2, hb2⟩
      replace st := (st.below hb2).add hr2
      clear hb2 hr2 Hq
      have hq := sumU2_all _ 2 2 xs ys _ (ls2_new (st.get A n c xs (by simp)) (st.get A' n' c' ys (by simp))) (by omega) (vars_two Hs.out) M1 M2 HM1.out HM2.out
      rw [HY.out, HE1.out] at hq
      have Hq := Lib.hid hq
      replace st := st.alloc (Obj.cells #[.slice A n c, .slice A' n' c'] 25)
      clear hq
      go_wp2_with fail
      refine Hq.out.mono ?_; rintro e w3 ⟨Ay, ny, cy, rfl, hr3, hb3⟩
      replace st := (st.below hb3).add hr3
      clear hb3 hr3 Hq
      obtain ⟨m0, m1⟩ := st.valM w.heap.size V C (by simp)
      have hq := scaleU_all C V A n c xs w3 (st.get A n c xs (by simp)) I M1 HI.out HM1.out
      rw [HZ.out, HEg.out] at hq
      have Hq := Lib.hid hq
      clear hq
      go_wp2_with fail
      refine Hq.out.mono ?_; rintro e w4 ⟨Az, nz, cz, rfl, hr4, hb4⟩
      replace st := (st.below hb4).add hr4
      clear hb4 hr4 Hq m0 m1
      obtain ⟨At', nt', ct', t0, t1, t2, hrt, hlt⟩ := st.valT (w.heap.size + 1) t (by simp)
      have hq := timesU_all At' nt' ct' t A n c xs w4 hrt (st.get A n c xs (by simp)) T M1 HT.out HM1.out
      rw [HWt.out, HEh.out] at hq
      have Hq := Lib.hid hq
      clear hq hrt hlt
      go_wp2_with fail
      clear t0 t1 t2
      refine Hq.out.mono ?_; rintro e w5 ⟨Aw, nw, cw, rfl, hr5, hb5⟩
      replace st := (st.below hb5).add hr5
      clear hb5 hr5 Hq
      have hq := takeU_all v A n c xs w5 (st.get A n c xs (by simp)) Hv.out M1 HM1.out
      rw [HU.out, HR.out, HEi.out] at hq
      have Hq := Lib.hid hq
      clear hq
      go_wp2_with fail
      refine Hq.out.mono ?_; rintro e w6 ⟨Au, nu, cu, Ar, nr, cr, rfl, hru, hr6, hb6⟩
      replace st := ((st.below hb6).add hr6).newT _ hru
      clear hb6 hr6 hru Hq
      go_wp2_with fail
      obtain ⟨w7, hw7⟩ : ∃ w7, w6.alloc (Obj.cells #[.bool U.never, .int .u8 U.c, .slice Au nu cu] 37) = w7 := ⟨_, rfl⟩
      rw [hw7] at st ⊢
      obtain ⟨gu, hgu⟩ : ∃ gu, w6.heap.size = gu := ⟨_, rfl⟩
      rw [hgu] at st ⊢
      clear hw7 hgu
      refine (refMayU_any A n c xs w7 (st.get A n c xs (by simp))).mono ?_; rintro e w8 ⟨rfl, hb8⟩
      replace st := st.below hb8
      rw [HM1.out]
      clear hb8
      go_wp2_with fail
      refine (refMayU_any A' n' c' ys w8 (st.get A' n' c' ys (by simp))).mono ?_; rintro e w9 ⟨rfl, hb9⟩
      replace st := st.below hb9
      rw [HM2.out]
      clear hb9
      go_wp2_with fail
      refine (usesMay_any A n c xs w9 (st.get A n c xs (by simp))).mono ?_; rintro e w10 ⟨rfl, hb10⟩
      replace st := st.below hb10
      rw [show mayUE xs = Ei from by rw [← HEi.out, ← HM1.out]; rfl]
      clear hb10
      have hss : ∀ (w1 : World) (l) (lt) (lm), StV w w1 l lt lm → (A, n, c, xs) ∈ l → (A', n', c', ys) ∈ l → Calls Try.prog 18 #[.slice A n c, .slice A' n' c'] w1 (fun e w' => e = .returned (.bool (decide (xs = ys))) ∧ StV w w' l lt lm) := fun w1 l lt lm st h1 h2 =>
        (sameU_any A n c xs A' n' c' ys w1 (st.get A n c xs h1) (st.get A' n' c' ys h2)).mono fun e w' ⟨h3, h4⟩ => ⟨h3, st.below h4⟩
      have hsr : ∀ (w1 : World) (l) (lt) (lm), StV w w1 l lt lm → (A, n, c, xs) ∈ l → (A', n', c', ys) ∈ l → Calls Try.prog 15 #[.slice A n c, .slice A' n' c'] w1 (fun e w' => e = .returned (.bool (decide (xs = ys))) ∧ StV w w' l lt lm) := fun w1 l lt lm st h1 h2 =>
        (refSameU_any A n c xs A' n' c' ys w1 (st.get A n c xs h1) (st.get A' n' c' ys h2)).mono fun e w' ⟨h3, h4⟩ => ⟨h3, st.below h4⟩
      obtain ⟨Q, hQ⟩ : ∃ Q, decide (xs = ys) = Q := ⟨_, rfl⟩
      rw [hQ] at hss hsr
      have Hss := Lib.hid hss
      have Hsr := Lib.hid hsr
      have dq : (Q != Q) = false := by simp
      clear hss hsr hQ
      cases M1 with
      | false =>
        obtain rfl : Ei = 2 := by rw [← HEi.out]; rfl
        obtain rfl : E1 = 2 := by rw [← HE1.out]; rfl
        obtain rfl : Eg = 2 := by rw [← HEg.out]; simp
        obtain rfl : Eh = 2 := by rw [← HEh.out]; simp
        go_wp2_with fail
        refine (Hss.out w10 _ _ _ st (by simp) (by simp)).mono ?_; rintro e w11 ⟨rfl, st2⟩
        clear st
        go_wp2_with fail
        refine (Hsr.out w11 _ _ _ st2 (by simp) (by simp)).mono ?_; rintro e w12 ⟨rfl, st⟩
        clear st2
        go_wp2_with fail
        refine (worksU_any _).mono ?_; rintro e wz ⟨rfl, hbz⟩
        go_wp2_with fail
        go_ret
        exact ⟨rfl, (st.below hbz).bel⟩
      | true =>
        obtain rfl : Ei = 0 := by rw [← HEi.out]; rfl
        cases M2 with
        | false =>
          obtain rfl : E1 = 2 := by rw [← HE1.out]; rfl
          go_wp2_with fail
          refine (Hss.out w10 _ _ _ st (by simp) (by simp)).mono ?_; rintro e w11 ⟨rfl, st2⟩
          clear st
          go_wp2_with fail
          refine (Hsr.out w11 _ _ _ st2 (by simp) (by simp)).mono ?_; rintro e w12 ⟨rfl, st⟩
          clear st2
          go_wp2_with fail
          refine (worksU_any _).mono ?_; rintro e wz ⟨rfl, hbz⟩
          go_wp2_with fail
          go_ret
          exact ⟨rfl, (st.below hbz).bel⟩
        | true =>
          have Gx : Hid (Good xs) := Lib.hid (good_of HM1.out)
          have Gy : Hid (Good ys) := Lib.hid (good_of HM2.out)
          obtain rfl : E1 = 0 := by rw [← HE1.out]; rfl
          obtain rfl : X = eachU joinT [xs, ys] := by rw [← HX.out]; rfl
          obtain rfl : Y = eachU sumT [xs, ys] := by rw [← HY.out]; rfl
          obtain rfl : U = ofU xs v := by rw [← HU.out]; rfl
          obtain rfl : R = xs.filter fun t => t.v != v := by rw [← HR.out]; rfl
          go_wp2_with fail
          refine (Hss.out w10 _ _ _ st (by simp) (by simp)).mono ?_; rintro e w11 ⟨rfl, st2⟩
          clear st
          go_wp2_with fail
          refine (Hsr.out w11 _ _ _ st2 (by simp) (by simp)).mono ?_; rintro e w12 ⟨rfl, st⟩
          clear st2 Hss Hsr dq
          have Hvl : Hid ((allVs xs).length ≤ 1099511627776) := Lib.hid (allVs_small (Hs.out.len xs (by simp)) (Hs.out.vars xs (by simp)))
          have Hnx : Hid (n ≤ 1048576) := Lib.hid (by have := Hs.out.len xs (by simp); have := (st.get A n c xs (by simp)).len; omega)
          obtain ⟨Au, nu, cu, u0, u1, u2, hru, hlu⟩ := st.valT gu (ofU xs v) (by simp)
          have Hru := Lib.hid hru
          have hbS : Below w12.heap.size w12 w12.drew := (Below.refl _ _).drew
          have st' := Lib.hid st
          clear st hru
          have sk0 := trivial
          go_wp2_with fail
          go_region_held3 (fun w' => w'.cell? ⟨gu, 0, none⟩ = some (.bool (ofU xs v).never) ∧ w'.cell? ⟨gu, 1, none⟩ = some (.int .u8 (ofU xs v).c) ∧ w'.cell? ⟨gu, 2, none⟩ = some (.slice Au nu cu))
            (first | go_keep | exact ⟨(hbS.cell (p := ⟨gu, 0, none⟩) hlu).trans u0, (hbS.cell (p := ⟨gu, 1, none⟩) hlu).trans u1, (hbS.cell (p := ⟨gu, 2, none⟩) hlu).trans u2⟩)
            ((first
              | (go_at_call 13; have st2 := st'.out.below hbS; refine (refJoinU_any A n c xs A' n' c' ys _ (st2.get A n c xs (by simp)) (st2.get A' n' c' ys (by simp)) Gx.out Gy.out).mono ?_; clear st2; rintro e wx ⟨A20, n20, c20, rfl, hr20, hbx⟩; replace hbS := hbS.trans (hbx.mono hbS.size); clear hbx)
              | (go_at_call 15; clear sk0; have sk1 := trivial; have st2 := st'.out.below hbS; refine (sameR_in (st2.get Ax nx cx (eachU joinT [xs, ys]) (by simp)) hr20).mono ?_; clear st2; rintro e wx ⟨rfl, hbx⟩; replace hbS := hbS.trans (hbx.mono hbS.size); clear hbx hr20)
              | (go_at_call 14; have st2 := st'.out.below hbS; refine (refSumU_any A n c xs A' n' c' ys _ (st2.get A n c xs (by simp)) (st2.get A' n' c' ys (by simp)) Gx.out Gy.out).mono ?_; clear st2; rintro e wx ⟨A20, n20, c20, rfl, hr20, hbx⟩; replace hbS := hbS.trans (hbx.mono hbS.size); clear hbx)
              | (go_at_call 15; clear sk1; have sk2 := trivial; have st2 := st'.out.below hbS; refine (sameR_in (st2.get Ay ny cy (eachU sumT [xs, ys]) (by simp)) hr20).mono ?_; clear st2; rintro e wx ⟨rfl, hbx⟩; replace hbS := hbS.trans (hbx.mono hbS.size); clear hbx hr20)
              | (go_at_call 26; have st2 := st'.out.below hbS; refine (refOf_any _ v A n c xs _ (st2.get A n c xs (by simp)) (Nat.le_refl _)).mono ?_; clear st2; rintro e wx ⟨A20, n20, c20, rfl, hr20, hbx⟩; replace hr20 := hr20.more hbx.size; replace hbS := hbS.trans (hbx.mono hbS.size); clear hbx)
              | (go_at_call 25; refine (refSame_at (v1 := .agg #[.bool (ofU xs v).never, .int .u8 (ofU xs v).c, .slice Au nu cu]) (v2 := .agg #[.bool (ofU xs v).never, .int .u8 (ofU xs v).c, .slice A20 n20 c20]) (t := ofU xs v) ⟨Au, nu, cu, rfl, Hru.out.below hbS⟩ ⟨A20, n20, c20, rfl, hr20⟩ hbS.size (Nat.le_refl _)).mono ?_; rintro e wx ⟨rfl, hbx⟩; replace hbS := hbS.trans (hbx.mono hbS.size); clear hbx hr20)
              | (go_at_call 27; have st2 := st'.out.below hbS; refine (less_any v A n c xs _ (st2.get A n c xs (by simp)) Hnx.out).mono ?_; clear st2; rintro e wx ⟨A20, n20, c20, rfl, hr20, hbx⟩; replace hbS := hbS.trans (hbx.mono hbS.size); clear hbx)
              | (go_at_call 15; clear sk2; have sk3 := trivial; have st2 := st'.out.below hbS; refine (sameR_in (st2.get Ar nr cr (xs.filter fun t => t.v != v) (by simp)) hr20).mono ?_; clear st2; rintro w13e w13 ⟨rfl, hbx⟩; replace hbS := hbS.trans (hbx.mono hbS.size); clear hbx hr20)))
          have st := st'.out.below hbS
          clear st' u0 u1 u2 hlu hbS sk3 Hru
          cases I with
          | true =>
            obtain rfl : Eg = 0 := by rw [← HEg.out]; rfl
            obtain rfl : Z = scaleU C V xs := by rw [← HZ.out]; rfl
            cases T with
            | true =>
              obtain rfl : Eh = 0 := by rw [← HEh.out]; rfl
              obtain rfl : Wt = timesU t xs := by rw [← HWt.out]; rfl
              obtain ⟨Au, nu, cu, u0, u1, u2, hru, hlu⟩ := st.valT gu (ofU xs v) (by simp)
              obtain ⟨At, nt, ct, t0, t1, t2, hrt, hlt⟩ := st.valT (w.heap.size + 1) t (by simp)
              obtain ⟨m0, m1⟩ := st.valM w.heap.size V C (by simp)
              clear hlt hlu
              go_wp2_with fail
              refine (refIs_any C V w13).mono ?_; rintro e w14 ⟨rfl, hb14⟩
              rw [HI.out]
              replace st := st.below hb14
              clear hb14 m0 m1 t0 t1 t2 u0 u1 u2 hru hrt
              obtain ⟨At, nt, ct, t0, t1, t2, hrt, hlt⟩ := st.valT (w.heap.size + 1) t (by simp)
              go_wp2_with fail
              refine (refMay_t (.agg #[.bool t.never, .int .u8 t.c, .slice At nt ct]) t w14 _ ⟨At, nt, ct, rfl, hrt⟩ (Nat.le_refl _)).mono ?_; rintro e w15 ⟨rfl, hb15⟩
              rw [HT.out]
              replace st := st.below hb15
              clear hb15 t0 t1 t2 hrt hlt
              obtain ⟨m0, m1⟩ := st.valM w.heap.size V C (by simp)
              go_wp2_with fail
              refine (refScaleU_any C V A n c xs _ (st.get A n c xs (by simp)) Gx.out HI.out).mono ?_; rintro e w16 ⟨A16, n16, c16, rfl, hr16, hb16⟩
              replace st := st.below hb16
              clear hb16 m0 m1
              go_wp2_with fail
              refine (sameR_in (st.get Az nz cz (scaleU C V xs) (by simp)) hr16).mono ?_; rintro e w17 ⟨rfl, hb17⟩
              replace st := st.below hb17
              clear hb17 hr16
              obtain ⟨At, nt, ct, t0, t1, t2, hrt, hlt⟩ := st.valT (w.heap.size + 1) t (by simp)
              go_wp2_with fail
              refine (refTimesU_any At nt ct t A n c xs _ hrt (st.get A n c xs (by simp)) HT.out Gx.out).mono ?_; rintro e w18 ⟨A18, n18, c18, rfl, hr18, hb18⟩
              replace st := st.below hb18
              clear hb18 t0 t1 t2 hrt hlt
              go_wp2_with fail
              refine (sameR_in (st.get Aw nw cw (timesU t xs) (by simp)) hr18).mono ?_; rintro e w19 ⟨rfl, hb19⟩
              replace st := st.below hb19
              clear hb19 hr18
              go_wp2_with fail
              refine (vars_any A n c xs _ (st.get A n c xs (by simp)) Hvl.out).mono ?_; rintro e w20 ⟨A20, n20, c20, rfl, hr20, hb20⟩
              replace st := st.below hb20
              have hl20 := hr20.len
              have n63 : n20 ≤ 9223372036854775807 := Nat.le_trans hr20.2.1 hr20.2.2
              have Hr20 := Lib.hid hr20
              clear hb20 hr20
              go_wp2_with fail
              go_loopg [201] n20 (fun gh i wr => ∃ k : Nat, k ≤ n20 ∧ gh = n20 - k ∧ i = .int .i64 k ∧ w20 = wr)
              case atStart => exact ⟨0, Nat.zero_le _, rfl, rfl, rfl⟩
              case round =>
                obtain ⟨k, hk, rfl, rfl, rfl⟩ := hrel
                by_cases hkn : k < n20
                · have d0 : decide (k < n20) = true := by simpa using hkn
                  obtain ⟨bl, ol, q, hbl, hc⟩ := Hr20.out.at_ (by omega)
                  subst q
                  have hk' : k < (sset (allVs xs)).length := by omega
                  have v0 := hc k hk'
                  have hin : (allVs xs).contains (sset (allVs xs))[k] = true := List.contains_iff_mem.2 (((sset_rises _).2 _).1 (List.getElem_mem hk'))
                  have hri := (sset_rises (allVs xs)).1
                  have hpv : ∀ k', k = k' + 1 → ∃ p : Int, w20.cell? ⟨bl, ol + k', none⟩ = some (.int .i64 p) ∧ p < (sset (allVs xs))[k] := fun k' e => by
                    have hk2 : k' < (sset (allVs xs)).length := by omega
                    exact ⟨_, hc k' hk2, List.pairwise_iff_getElem.1 hri k' k hk2 hk' (by omega)⟩
                  obtain ⟨nv, hnv⟩ : ∃ nv, (sset (allVs xs))[k] = nv := ⟨_, rfl⟩
                  rw [hnv] at v0 hin hpv
                  have k1 : (0 : Int) ≤ (k : Int) := by omega
                  have k2 : (k : Int) < n20 := by omega
                  have hh := hasU_any nv A n c xs w20 (st.get A n c xs (by simp))
                  rw [hin] at hh
                  have Hh := Lib.hid hh
                  clear hc hin hri hnv hh
                  cases k with
                  | zero =>
                    simp only [Nat.add_zero] at v0
                    clear hpv
                    go_wp2_with fail
                    refine Hh.out.mono ?_; rintro e w21 ⟨rfl, rfl⟩
                    go_wp2_with fail
                    go_roundg (n20 - (0 + 1))
                    case measure => omega
                    case rel => exact ⟨0 + 1, by omega, rfl, by go_num, rfl⟩
                  | succ k' =>
                    obtain ⟨p, p0, hp⟩ := hpv k' rfl
                    have d1 : decide (nv ≤ p) = false := by simp; omega
                    have i4 : (0 : Int) ≤ (k' : Int) + 1 := by omega
                    have i5 : (k' : Int) + 1 < n20 := by omega
                    have i6 : (0 : Int) ≤ (k' : Int) := by omega
                    have i7 : (k' : Int) < n20 := by omega
                    clear hpv hp
                    go_wp2_with fail
                    refine Hh.out.mono ?_; rintro e w21 ⟨rfl, rfl⟩
                    go_wp2_with fail
                    go_roundg (n20 - (k' + 1 + 1))
                    case measure => omega
                    case rel => exact ⟨k' + 1 + 1, by omega, rfl, by go_num, rfl⟩
                · have d0 : decide (k < n20) = false := by simpa using hkn
                  go_wp2_with fail
                  have hc1 := containsI_any A20 n20 c20 _ v w20 _ Hr20.out
                  have hc2 := hasU_any v A n c xs w20 (st.get A n c xs (by simp))
                  rw [show (sset (allVs xs)).contains v = (allVs xs).contains v from by rw [Bool.eq_iff_iff, List.contains_iff_mem, List.contains_iff_mem, (sset_rises _).2]] at hc1
                  obtain ⟨Q, hQ⟩ : ∃ Q, (allVs xs).contains v = Q := ⟨_, rfl⟩
                  rw [hQ] at hc1 hc2
                  have Hc1 := Lib.hid hc1
                  have Hc2 := Lib.hid hc2
                  clear hQ hc1 hc2
                  refine Hc1.out.mono ?_; rintro e w21 ⟨rfl, rfl⟩
                  go_wp2_with fail
                  refine Hc2.out.mono ?_; rintro e w22 ⟨rfl, rfl⟩
                  cases Q with
                  | true =>
                    go_wp2_with fail
                    refine (worksU_any _).mono ?_; rintro e wz ⟨rfl, hbz⟩
                    go_wp2_with fail
                    go_ret
                    exact ⟨rfl, (st.below hbz).bel⟩
                  | false =>
                    go_wp2_with fail
                    refine (worksU_any _).mono ?_; rintro e wz ⟨rfl, hbz⟩
                    go_wp2_with fail
                    go_ret
                    exact ⟨rfl, (st.below hbz).bel⟩
            | false =>
              obtain rfl : Eh = 2 := by rw [← HEh.out]; rfl
              obtain ⟨Au, nu, cu, u0, u1, u2, hru, hlu⟩ := st.valT gu (ofU xs v) (by simp)
              obtain ⟨At, nt, ct, t0, t1, t2, hrt, hlt⟩ := st.valT (w.heap.size + 1) t (by simp)
              obtain ⟨m0, m1⟩ := st.valM w.heap.size V C (by simp)
              clear hlt hlu
              go_wp2_with fail
              refine (refIs_any C V w13).mono ?_; rintro e w14 ⟨rfl, hb14⟩
              rw [HI.out]
              replace st := st.below hb14
              clear hb14 m0 m1 t0 t1 t2 u0 u1 u2 hru hrt
              obtain ⟨At, nt, ct, t0, t1, t2, hrt, hlt⟩ := st.valT (w.heap.size + 1) t (by simp)
              go_wp2_with fail
              refine (refMay_t (.agg #[.bool t.never, .int .u8 t.c, .slice At nt ct]) t w14 _ ⟨At, nt, ct, rfl, hrt⟩ (Nat.le_refl _)).mono ?_; rintro e w15 ⟨rfl, hb15⟩
              rw [HT.out]
              replace st := st.below hb15
              clear hb15 t0 t1 t2 hrt hlt
              obtain ⟨m0, m1⟩ := st.valM w.heap.size V C (by simp)
              go_wp2_with fail
              refine (refScaleU_any C V A n c xs _ (st.get A n c xs (by simp)) Gx.out HI.out).mono ?_; rintro e w16 ⟨A16, n16, c16, rfl, hr16, hb16⟩
              replace st := st.below hb16
              clear hb16 m0 m1
              go_wp2_with fail
              refine (sameR_in (st.get Az nz cz (scaleU C V xs) (by simp)) hr16).mono ?_; rintro e w17 ⟨rfl, hb17⟩
              replace st := st.below hb17
              clear hb17 hr16
              go_wp2_with fail
              refine (vars_any A n c xs _ (st.get A n c xs (by simp)) Hvl.out).mono ?_; rintro e w20 ⟨A20, n20, c20, rfl, hr20, hb20⟩
              replace st := st.below hb20
              have hl20 := hr20.len
              have n63 : n20 ≤ 9223372036854775807 := Nat.le_trans hr20.2.1 hr20.2.2
              have Hr20 := Lib.hid hr20
              clear hb20 hr20
              go_wp2_with fail
              go_loopg [201] n20 (fun gh i wr => ∃ k : Nat, k ≤ n20 ∧ gh = n20 - k ∧ i = .int .i64 k ∧ w20 = wr)
              case atStart => exact ⟨0, Nat.zero_le _, rfl, rfl, rfl⟩
              case round =>
                obtain ⟨k, hk, rfl, rfl, rfl⟩ := hrel
                by_cases hkn : k < n20
                · have d0 : decide (k < n20) = true := by simpa using hkn
                  obtain ⟨bl, ol, q, hbl, hc⟩ := Hr20.out.at_ (by omega)
                  subst q
                  have hk' : k < (sset (allVs xs)).length := by omega
                  have v0 := hc k hk'
                  have hin : (allVs xs).contains (sset (allVs xs))[k] = true := List.contains_iff_mem.2 (((sset_rises _).2 _).1 (List.getElem_mem hk'))
                  have hri := (sset_rises (allVs xs)).1
                  have hpv : ∀ k', k = k' + 1 → ∃ p : Int, w20.cell? ⟨bl, ol + k', none⟩ = some (.int .i64 p) ∧ p < (sset (allVs xs))[k] := fun k' e => by
                    have hk2 : k' < (sset (allVs xs)).length := by omega
                    exact ⟨_, hc k' hk2, List.pairwise_iff_getElem.1 hri k' k hk2 hk' (by omega)⟩
                  obtain ⟨nv, hnv⟩ : ∃ nv, (sset (allVs xs))[k] = nv := ⟨_, rfl⟩
                  rw [hnv] at v0 hin hpv
                  have k1 : (0 : Int) ≤ (k : Int) := by omega
                  have k2 : (k : Int) < n20 := by omega
                  have hh := hasU_any nv A n c xs w20 (st.get A n c xs (by simp))
                  rw [hin] at hh
                  have Hh := Lib.hid hh
                  clear hc hin hri hnv hh
                  cases k with
                  | zero =>
                    simp only [Nat.add_zero] at v0
                    clear hpv
                    go_wp2_with fail
                    refine Hh.out.mono ?_; rintro e w21 ⟨rfl, rfl⟩
                    go_wp2_with fail
                    go_roundg (n20 - (0 + 1))
                    case measure => omega
                    case rel => exact ⟨0 + 1, by omega, rfl, by go_num, rfl⟩
                  | succ k' =>
                    obtain ⟨p, p0, hp⟩ := hpv k' rfl
                    have d1 : decide (nv ≤ p) = false := by simp; omega
                    have i4 : (0 : Int) ≤ (k' : Int) + 1 := by omega
                    have i5 : (k' : Int) + 1 < n20 := by omega
                    have i6 : (0 : Int) ≤ (k' : Int) := by omega
                    have i7 : (k' : Int) < n20 := by omega
                    clear hpv hp
                    go_wp2_with fail
                    refine Hh.out.mono ?_; rintro e w21 ⟨rfl, rfl⟩
                    go_wp2_with fail
                    go_roundg (n20 - (k' + 1 + 1))
                    case measure => omega
                    case rel => exact ⟨k' + 1 + 1, by omega, rfl, by go_num, rfl⟩
                · have d0 : decide (k < n20) = false := by simpa using hkn
                  go_wp2_with fail
                  have hc1 := containsI_any A20 n20 c20 _ v w20 _ Hr20.out
                  have hc2 := hasU_any v A n c xs w20 (st.get A n c xs (by simp))
                  rw [show (sset (allVs xs)).contains v = (allVs xs).contains v from by rw [Bool.eq_iff_iff, List.contains_iff_mem, List.contains_iff_mem, (sset_rises _).2]] at hc1
                  obtain ⟨Q, hQ⟩ : ∃ Q, (allVs xs).contains v = Q := ⟨_, rfl⟩
                  rw [hQ] at hc1 hc2
                  have Hc1 := Lib.hid hc1
                  have Hc2 := Lib.hid hc2
                  clear hQ hc1 hc2
                  refine Hc1.out.mono ?_; rintro e w21 ⟨rfl, rfl⟩
                  go_wp2_with fail
                  refine Hc2.out.mono ?_; rintro e w22 ⟨rfl, rfl⟩
                  cases Q with
                  | true =>
                    go_wp2_with fail
                    refine (worksU_any _).mono ?_; rintro e wz ⟨rfl, hbz⟩
                    go_wp2_with fail
                    go_ret
                    exact ⟨rfl, (st.below hbz).bel⟩
                  | false =>
                    go_wp2_with fail
                    refine (worksU_any _).mono ?_; rintro e wz ⟨rfl, hbz⟩
                    go_wp2_with fail
                    go_ret
                    exact ⟨rfl, (st.below hbz).bel⟩
          | false =>
            obtain rfl : Eg = 2 := by rw [← HEg.out]; rfl
            cases T with
            | true =>
              obtain rfl : Eh = 0 := by rw [← HEh.out]; rfl
              obtain rfl : Wt = timesU t xs := by rw [← HWt.out]; rfl
              obtain ⟨Au, nu, cu, u0, u1, u2, hru, hlu⟩ := st.valT gu (ofU xs v) (by simp)
              obtain ⟨At, nt, ct, t0, t1, t2, hrt, hlt⟩ := st.valT (w.heap.size + 1) t (by simp)
              obtain ⟨m0, m1⟩ := st.valM w.heap.size V C (by simp)
              clear hlt hlu
              go_wp2_with fail
              refine (refIs_any C V w13).mono ?_; rintro e w14 ⟨rfl, hb14⟩
              rw [HI.out]
              replace st := st.below hb14
              clear hb14 m0 m1 t0 t1 t2 u0 u1 u2 hru hrt
              obtain ⟨At, nt, ct, t0, t1, t2, hrt, hlt⟩ := st.valT (w.heap.size + 1) t (by simp)
              go_wp2_with fail
              refine (refMay_t (.agg #[.bool t.never, .int .u8 t.c, .slice At nt ct]) t w14 _ ⟨At, nt, ct, rfl, hrt⟩ (Nat.le_refl _)).mono ?_; rintro e w15 ⟨rfl, hb15⟩
              rw [HT.out]
              replace st := st.below hb15
              clear hb15 t0 t1 t2 hrt hlt
              obtain ⟨At, nt, ct, t0, t1, t2, hrt, hlt⟩ := st.valT (w.heap.size + 1) t (by simp)
              go_wp2_with fail
              refine (refTimesU_any At nt ct t A n c xs _ hrt (st.get A n c xs (by simp)) HT.out Gx.out).mono ?_; rintro e w18 ⟨A18, n18, c18, rfl, hr18, hb18⟩
              replace st := st.below hb18
              clear hb18 t0 t1 t2 hrt hlt
              go_wp2_with fail
              refine (sameR_in (st.get Aw nw cw (timesU t xs) (by simp)) hr18).mono ?_; rintro e w19 ⟨rfl, hb19⟩
              replace st := st.below hb19
              clear hb19 hr18
              go_wp2_with fail
              refine (vars_any A n c xs _ (st.get A n c xs (by simp)) Hvl.out).mono ?_; rintro e w20 ⟨A20, n20, c20, rfl, hr20, hb20⟩
              replace st := st.below hb20
              have hl20 := hr20.len
              have n63 : n20 ≤ 9223372036854775807 := Nat.le_trans hr20.2.1 hr20.2.2
              have Hr20 := Lib.hid hr20
              clear hb20 hr20
              go_wp2_with fail
              go_loopg [201] n20 (fun gh i wr => ∃ k : Nat, k ≤ n20 ∧ gh = n20 - k ∧ i = .int .i64 k ∧ w20 = wr)
              case atStart => exact ⟨0, Nat.zero_le _, rfl, rfl, rfl⟩
              case round =>
                obtain ⟨k, hk, rfl, rfl, rfl⟩ := hrel
                by_cases hkn : k < n20
                · have d0 : decide (k < n20) = true := by simpa using hkn
                  obtain ⟨bl, ol, q, hbl, hc⟩ := Hr20.out.at_ (by omega)
                  subst q
                  have hk' : k < (sset (allVs xs)).length := by omega
                  have v0 := hc k hk'
                  have hin : (allVs xs).contains (sset (allVs xs))[k] = true := List.contains_iff_mem.2 (((sset_rises _).2 _).1 (List.getElem_mem hk'))
                  have hri := (sset_rises (allVs xs)).1
                  have hpv : ∀ k', k = k' + 1 → ∃ p : Int, w20.cell? ⟨bl, ol + k', none⟩ = some (.int .i64 p) ∧ p < (sset (allVs xs))[k] := fun k' e => by
                    have hk2 : k' < (sset (allVs xs)).length := by omega
                    exact ⟨_, hc k' hk2, List.pairwise_iff_getElem.1 hri k' k hk2 hk' (by omega)⟩
                  obtain ⟨nv, hnv⟩ : ∃ nv, (sset (allVs xs))[k] = nv := ⟨_, rfl⟩
                  rw [hnv] at v0 hin hpv
                  have k1 : (0 : Int) ≤ (k : Int) := by omega
                  have k2 : (k : Int) < n20 := by omega
                  have hh := hasU_any nv A n c xs w20 (st.get A n c xs (by simp))
                  rw [hin] at hh
                  have Hh := Lib.hid hh
                  clear hc hin hri hnv hh
                  cases k with
                  | zero =>
                    simp only [Nat.add_zero] at v0
                    clear hpv
                    go_wp2_with fail
                    refine Hh.out.mono ?_; rintro e w21 ⟨rfl, rfl⟩
                    go_wp2_with fail
                    go_roundg (n20 - (0 + 1))
                    case measure => omega
                    case rel => exact ⟨0 + 1, by omega, rfl, by go_num, rfl⟩
                  | succ k' =>
                    obtain ⟨p, p0, hp⟩ := hpv k' rfl
                    have d1 : decide (nv ≤ p) = false := by simp; omega
                    have i4 : (0 : Int) ≤ (k' : Int) + 1 := by omega
                    have i5 : (k' : Int) + 1 < n20 := by omega
                    have i6 : (0 : Int) ≤ (k' : Int) := by omega
                    have i7 : (k' : Int) < n20 := by omega
                    clear hpv hp
                    go_wp2_with fail
                    refine Hh.out.mono ?_; rintro e w21 ⟨rfl, rfl⟩
                    go_wp2_with fail
                    go_roundg (n20 - (k' + 1 + 1))
                    case measure => omega
                    case rel => exact ⟨k' + 1 + 1, by omega, rfl, by go_num, rfl⟩
                · have d0 : decide (k < n20) = false := by simpa using hkn
                  go_wp2_with fail
                  have hc1 := containsI_any A20 n20 c20 _ v w20 _ Hr20.out
                  have hc2 := hasU_any v A n c xs w20 (st.get A n c xs (by simp))
                  rw [show (sset (allVs xs)).contains v = (allVs xs).contains v from by rw [Bool.eq_iff_iff, List.contains_iff_mem, List.contains_iff_mem, (sset_rises _).2]] at hc1
                  obtain ⟨Q, hQ⟩ : ∃ Q, (allVs xs).contains v = Q := ⟨_, rfl⟩
                  rw [hQ] at hc1 hc2
                  have Hc1 := Lib.hid hc1
                  have Hc2 := Lib.hid hc2
                  clear hQ hc1 hc2
                  refine Hc1.out.mono ?_; rintro e w21 ⟨rfl, rfl⟩
                  go_wp2_with fail
                  refine Hc2.out.mono ?_; rintro e w22 ⟨rfl, rfl⟩
                  cases Q with
                  | true =>
                    go_wp2_with fail
                    refine (worksU_any _).mono ?_; rintro e wz ⟨rfl, hbz⟩
                    go_wp2_with fail
                    go_ret
                    exact ⟨rfl, (st.below hbz).bel⟩
                  | false =>
                    go_wp2_with fail
                    refine (worksU_any _).mono ?_; rintro e wz ⟨rfl, hbz⟩
                    go_wp2_with fail
                    go_ret
                    exact ⟨rfl, (st.below hbz).bel⟩
            | false =>
              obtain rfl : Eh = 2 := by rw [← HEh.out]; rfl
              obtain ⟨Au, nu, cu, u0, u1, u2, hru, hlu⟩ := st.valT gu (ofU xs v) (by simp)
              obtain ⟨At, nt, ct, t0, t1, t2, hrt, hlt⟩ := st.valT (w.heap.size + 1) t (by simp)
              obtain ⟨m0, m1⟩ := st.valM w.heap.size V C (by simp)
              clear hlt hlu
              go_wp2_with fail
              refine (refIs_any C V w13).mono ?_; rintro e w14 ⟨rfl, hb14⟩
              rw [HI.out]
              replace st := st.below hb14
              clear hb14 m0 m1 t0 t1 t2 u0 u1 u2 hru hrt
              obtain ⟨At, nt, ct, t0, t1, t2, hrt, hlt⟩ := st.valT (w.heap.size + 1) t (by simp)
              go_wp2_with fail
              refine (refMay_t (.agg #[.bool t.never, .int .u8 t.c, .slice At nt ct]) t w14 _ ⟨At, nt, ct, rfl, hrt⟩ (Nat.le_refl _)).mono ?_; rintro e w15 ⟨rfl, hb15⟩
              rw [HT.out]
              replace st := st.below hb15
              clear hb15 t0 t1 t2 hrt hlt
              go_wp2_with fail
              refine (vars_any A n c xs _ (st.get A n c xs (by simp)) Hvl.out).mono ?_; rintro e w20 ⟨A20, n20, c20, rfl, hr20, hb20⟩
              replace st := st.below hb20
              have hl20 := hr20.len
              have n63 : n20 ≤ 9223372036854775807 := Nat.le_trans hr20.2.1 hr20.2.2
              have Hr20 := Lib.hid hr20
              clear hb20 hr20
              go_wp2_with fail
              go_loopg [201] n20 (fun gh i wr => ∃ k : Nat, k ≤ n20 ∧ gh = n20 - k ∧ i = .int .i64 k ∧ w20 = wr)
              case atStart => exact ⟨0, Nat.zero_le _, rfl, rfl, rfl⟩
              case round =>
                obtain ⟨k, hk, rfl, rfl, rfl⟩ := hrel
                by_cases hkn : k < n20
                · have d0 : decide (k < n20) = true := by simpa using hkn
                  obtain ⟨bl, ol, q, hbl, hc⟩ := Hr20.out.at_ (by omega)
                  subst q
                  have hk' : k < (sset (allVs xs)).length := by omega
                  have v0 := hc k hk'
                  have hin : (allVs xs).contains (sset (allVs xs))[k] = true := List.contains_iff_mem.2 (((sset_rises _).2 _).1 (List.getElem_mem hk'))
                  have hri := (sset_rises (allVs xs)).1
                  have hpv : ∀ k', k = k' + 1 → ∃ p : Int, w20.cell? ⟨bl, ol + k', none⟩ = some (.int .i64 p) ∧ p < (sset (allVs xs))[k] := fun k' e => by
                    have hk2 : k' < (sset (allVs xs)).length := by omega
                    exact ⟨_, hc k' hk2, List.pairwise_iff_getElem.1 hri k' k hk2 hk' (by omega)⟩
                  obtain ⟨nv, hnv⟩ : ∃ nv, (sset (allVs xs))[k] = nv := ⟨_, rfl⟩
                  rw [hnv] at v0 hin hpv
                  have k1 : (0 : Int) ≤ (k : Int) := by omega
                  have k2 : (k : Int) < n20 := by omega
                  have hh := hasU_any nv A n c xs w20 (st.get A n c xs (by simp))
                  rw [hin] at hh
                  have Hh := Lib.hid hh
                  clear hc hin hri hnv hh
                  cases k with
                  | zero =>
                    simp only [Nat.add_zero] at v0
                    clear hpv
                    go_wp2_with fail
                    refine Hh.out.mono ?_; rintro e w21 ⟨rfl, rfl⟩
                    go_wp2_with fail
                    go_roundg (n20 - (0 + 1))
                    case measure => omega
                    case rel => exact ⟨0 + 1, by omega, rfl, by go_num, rfl⟩
                  | succ k' =>
                    obtain ⟨p, p0, hp⟩ := hpv k' rfl
                    have d1 : decide (nv ≤ p) = false := by simp; omega
                    have i4 : (0 : Int) ≤ (k' : Int) + 1 := by omega
                    have i5 : (k' : Int) + 1 < n20 := by omega
                    have i6 : (0 : Int) ≤ (k' : Int) := by omega
                    have i7 : (k' : Int) < n20 := by omega
                    clear hpv hp
                    go_wp2_with fail
                    refine Hh.out.mono ?_; rintro e w21 ⟨rfl, rfl⟩
                    go_wp2_with fail
                    go_roundg (n20 - (k' + 1 + 1))
                    case measure => omega
                    case rel => exact ⟨k' + 1 + 1, by omega, rfl, by go_num, rfl⟩
                · have d0 : decide (k < n20) = false := by simpa using hkn
                  go_wp2_with fail
                  have hc1 := containsI_any A20 n20 c20 _ v w20 _ Hr20.out
                  have hc2 := hasU_any v A n c xs w20 (st.get A n c xs (by simp))
                  rw [show (sset (allVs xs)).contains v = (allVs xs).contains v from by rw [Bool.eq_iff_iff, List.contains_iff_mem, List.contains_iff_mem, (sset_rises _).2]] at hc1
                  obtain ⟨Q, hQ⟩ : ∃ Q, (allVs xs).contains v = Q := ⟨_, rfl⟩
                  rw [hQ] at hc1 hc2
                  have Hc1 := Lib.hid hc1
                  have Hc2 := Lib.hid hc2
                  clear hQ hc1 hc2
                  refine Hc1.out.mono ?_; rintro e w21 ⟨rfl, rfl⟩
                  go_wp2_with fail
                  refine Hc2.out.mono ?_; rintro e w22 ⟨rfl, rfl⟩
                  cases Q with
                  | true =>
                    go_wp2_with fail
                    refine (worksU_any _).mono ?_; rintro e wz ⟨rfl, hbz⟩
                    go_wp2_with fail
                    go_ret
                    exact ⟨rfl, (st.below hbz).bel⟩
                  | false =>
                    go_wp2_with fail
                    refine (worksU_any _).mono ?_; rintro e wz ⟨rfl, hbz⟩
                    go_wp2_with fail
                    go_ret
                    exact ⟨rfl, (st.below hbz).bel⟩

theorem walk_usesOps {w : World} (v0 : Value) (h0 : UsesIn w v0) (v1 : Value) (h1 : UsesIn w v1) (v2 : Value) (h2 : MuIn v2) (v3 : Value) (h3 : TermW w v3) (v : Int) (hv : -9223372036854775808 ≤ v ∧ v ≤ 9223372036854775807) :
    Calls Try.prog 6 #[v0, v1, v2, v3, .int .i64 v] w fun e w' => e = .returned (.bool true) ∧ Below w.heap.size w w' := by
  obtain ⟨A, n, c, xs, rfl, hx, hn⟩ := h0
  obtain ⟨A', n', c', ys, rfl, hy, hn'⟩ := h1
  obtain ⟨V, C, rfl, _⟩ := h2
  obtain ⟨t, A0, n0, c0, rfl, ht, _, _⟩ := h3
  exact walkA_usesOps A n c xs A' n' c' ys V C t A0 n0 c0 v hv w hx hy ht hn hn'

/-! ### the row's step -/
namespace usesOps
set_option maxRecDepth 100000 in
theorem lifted (os : Os) (started : os.Started) (H : Type) (enc : TypeId × Value → H) :
    ReturnsInHanded {} Try.checked os 6 .any (Rows.usesOpsSpec.pre6 enc Try.prog Try.f6 Rows.usesOpsRow.domain false) (Rows.usesOpsSpec.post enc Try.prog Try.f6 false true false false) := by
  refine returnsInHanded_of_change_sized (C := Try.checked) own started (by kernel_rfl) Try.func6
    (ChangeSpec.witness6 (enc := enc) (C := Try.checked) false ⟨#[], #[.slice none 0 0, .slice none 0 0, .agg #[.int .i64 0, .int .u8 0], .agg #[.bool false, .int .u8 0, .slice none 0 0], .int .i64 0], []⟩ 8 (by kernel_rfl) (by kernel_rfl) (by kernel_rfl) (by kernel_rfl)) ?_
  intro W base args ds gs before hval0 hW hcnd hsz0 _
  have hsz : (DataW.weightsEach Try.prog (Try.f6.params.toList ++ Rows.usesOpsSpec.plain.varTypes Try.prog) (ds ++ gs)).all (· ≤ reachBytes) = true := hsz0
  have hval : ∀ (j : Nat) t v, Try.f6.params[j]? = some t → args[j]? = some v → Value.okWide Try.prog W .any base t v := hval0
  have hW' := hW
  obtain ⟨p, q, hA0, hV, rfl, hfz, hnd⟩ := hW
  have hA : DataW.TrodAll enc Try.prog W 0 (fun _ => true) true Try.f6.params.toList args.toList ds p := hA0
  rw [Try.params6] at hA hval hsz
  obtain ⟨v0, vs0, d0, ds0, p0, q0, hargs, rfl, rfl, h0, r_0⟩ := trodAll_cons hA
  obtain ⟨v1, vs1, d1, ds1, p1, q1, rfl, rfl, rfl, h1, r_1⟩ := trodAll_cons r_0
  obtain ⟨v2, vs2, d2, ds2, p2, q2, rfl, rfl, rfl, h2, r_2⟩ := trodAll_cons r_1
  obtain ⟨v3, vs3, d3, ds3, p3, q3, rfl, rfl, rfl, h3, r_3⟩ := trodAll_cons r_2
  obtain ⟨v4, vs4, d4, ds4, p4, q4, rfl, rfl, rfl, h4, r_4⟩ := trodAll_cons r_3
  obtain ⟨rfl, rfl, rfl⟩ := trodAll_nil r_4
  obtain rfl : args = #[v0, v1, v2, v3, v4] := by cases args; simp_all
  obtain ⟨rfl, rfl⟩ := trodVars_none hV
  have w0 := rd_uses (hval 0 25 v0 rfl rfl) h0 (light_of hsz (j := 0) rfl rfl)
  have w1 := rd_uses (hval 1 25 v1 rfl rfl) h1 (light_of hsz (j := 1) rfl rfl)
  have w2 := rd_mu (hval 2 46 v2 rfl rfl) h2
  have w3 := rd_termw (hval 3 37 v3 rfl rfl) h3 (light_of hsz (j := 3) rfl rfl)
  obtain ⟨a4, rfl, _, _, w4⟩ := open_int Try.underlying3 (hval 4 3 v4 rfl rfl) h4
  have b4 := bounds_i64 w4
  refine (walk_usesOps (w := W) v0 w0 v1 w1 v2 w2 v3 w3 a4 b4).mono fun e W' ⟨he, bel⟩ => ?_
  subst he
  exact ⟨_, rfl, law_post laidOut (by kernel_rfl) rfl rfl Try.underlying4 hW' rfl rfl rfl bel⟩
theorem over : Rows.usesOpsRow.holds Try.pinned (OpenSpec.ofChange Rows.usesOpsSpec) :=
  OpenClaim.holds_of_wide 6 Try.f6 rfl rfl rfl rfl rfl rfl rfl ⟨rfl, rfl, rfl, rfl, rfl⟩ rfl rfl rfl rfl rfl (by kernel_rfl) Try.func6 (by kernel_rfl)
    (of_decide_eq_true (by kernel_rfl)) (by unfold Func.isWrapper; first | (rw [if_pos (by decide +kernel)]; kernel_rfl) | (rw [if_neg (by decide +kernel)]; exact ⟨rfl, rfl⟩))
    (fun os started H enc _ => lifted os started H enc)
/-- the statement -/
theorem proved : Rows.UsesOpsSaid := over
#print axioms proved
end usesOps
end Go.Proofs.Ytimlbpjdgnapoaa
