/- UsesOrder holds for every input: in which order uses are joined, or summed, makes no difference; what is taken out and summed again is as it was. No conditions. -/
import Derived.Test.YtimlbpjdgnapoaaLawX
import Derived.Test.YtimlbpjdgnapoaaM11
namespace Go.Proofs.Ytimlbpjdgnapoaa
set_option linter.unusedVariables false
set_option linter.unusedSimpArgs false
open Go.ChangeShapes Go.WideShapes Go.ChangeAt Go.RowKit

theorem vars_small' {ls : List (List UseD)} (h : SmallU ls) : (varsOf ls).length ≤ 1048576 := by
  have h2 : ∀ l ∈ ls, l.length ≤ 500 := h.len
  have key : ∀ ls : List (List UseD), (∀ l ∈ ls, l.length ≤ 500) → (varsOf ls).length ≤ 500 * ls.length := by
    intro ls
    induction ls with
    | nil => intro _; simp [varsOf]
    | cons l ls ih =>
      intro h
      have h1 := ih fun x hx => h x (by simp [hx])
      have h3 := h l (by simp)
      have e : varsOf (l :: ls) = l.map (·.v) ++ varsOf ls := by simp [varsOf]
      rw [e, List.length_append, List.length_map, List.length_cons]
      omega
  have := key ls h2
  have := h.num
  omega
theorem small_perm {a b : List (List UseD)} (h : a.Perm b) (hs : SmallU a) : SmallU b :=
  ⟨by rw [← h.length_eq]; exact hs.num, fun l hl => hs.len l (h.mem_iff.2 hl), fun l hl => hs.vars l (h.mem_iff.2 hl)⟩
theorem any_good {ls : List (List UseD)} (h : ∀ l ∈ ls, Good l) : ls.any (fun x => !mayU x) = false := by
  rw [List.any_eq_false]
  intro l hl
  simp [(h l hl).mayU]
theorem joinU_good (A : Option Addr) (n c : Nat) (ls : List (List UseD)) (w : World) (hr : LsV w w.heap.size A n c ls) (hn : n ≤ 1048576) (hV : (varsOf ls).length ≤ 1048576) (hg : ∀ l ∈ ls, Good l) :
    Calls Try.prog 10 #[.slice A n c] w (RetUE (eachU joinT ls) 0 w) := by
  have h := joinU_any A n c ls w hr hn hV
  rw [any_good hg] at h; simpa using h
theorem sumU_good (A : Option Addr) (n c : Nat) (ls : List (List UseD)) (w : World) (hr : LsV w w.heap.size A n c ls) (hn : n ≤ 1048576) (hV : (varsOf ls).length ≤ 1048576) (hg : ∀ l ∈ ls, Good l) :
    Calls Try.prog 11 #[.slice A n c] w (RetUE (eachU sumT ls) 0 w) := by
  have h := sumU_any A n c ls w hr hn hV
  rw [any_good hg] at h; simpa using h
theorem may_in {A : Option Addr} {n c : Nat} {xs : List UseD} {w : World} {l : List (Option Addr × Nat × Nat × List UseD)} {w0 : World} (st : StU w0 w l) (hm : (A, n, c, xs) ∈ l) (M : Bool) (hM : mayU xs = M) :
    Calls Try.prog 16 #[.slice A n c] w fun e w' => e = .returned (.int .i64 (if M then 0 else 2)) ∧ StU w0 w' l := by
  refine (usesMay_any A n c xs w (st.get A n c xs hm)).mono fun e w' ⟨h1, h2⟩ => ⟨?_, st.below h2⟩
  rw [h1, ← hM]; rfl

set_option maxRecDepth 100000 in
set_option maxHeartbeats 8000000 in
theorem walkA_usesOrder (A : Option Addr) (n c : Nat) (xs : List UseD) (A' : Option Addr) (n' c' : Nat) (ys : List UseD) (A'' : Option Addr) (n'' c'' : Nat) (zs : List UseD) (v : Int) (hv : -9223372036854775808 ≤ v ∧ v ≤ 9223372036854775807) (w : World)
    (hx : UsesV w w.heap.size A n c xs) (hy : UsesV w w.heap.size A' n' c' ys) (hz : UsesV w w.heap.size A'' n'' c'' zs) (hnx : n ≤ 4398046511104) (hny : n' ≤ 4398046511104) (hnz : n'' ≤ 4398046511104) :
    Calls Try.prog 4 #[.slice A n c, .slice A' n' c', .slice A'' n'' c'', .int .i64 v] w fun e w' => e = .returned (.bool true) ∧ Below w.heap.size w w' := by
  obtain ⟨i2, hu0, hu1, hu2, hu3⟩ := info_parts usageInfo
  have st := (((StU.start w).add hz).add hy).add hx
  have hg := greatU_any _ 3 3 _ _ (ls3_new hx hy hz) (by intro l hl; simp at hl; rcases hl with rfl | rfl | rfl <;> simp_all [UsesV.len hx, UsesV.len hy, UsesV.len hz])
  have Hg := Lib.hid hg
  replace st := st.alloc (Obj.cells #[.slice A n c, .slice A' n' c', .slice A'' n'' c''] 25)
  clear hx hy hz hg
  obtain ⟨M1, hM1⟩ : ∃ M, mayU xs = M := ⟨_, rfl⟩
  obtain ⟨M2, hM2⟩ : ∃ M, mayU ys = M := ⟨_, rfl⟩
  obtain ⟨M3, hM3⟩ : ∃ M, mayU zs = M := ⟨_, rfl⟩
  have HM1 := Lib.hid hM1
  have HM2 := Lib.hid hM2
  have HM3 := Lib.hid hM3
  clear hM1 hM2 hM3
  go_enter Try.func4, Try.ntmps4
  go_wp2_with fail
  refine Hg.out.mono ?_; rintro e w1 ⟨r, rfl, hsm, hb1⟩
  replace st := st.below hb1
  clear hb1 Hg
  cases r with
  | true =>
    go_wp2_with fail
    refine (worksU_any _).mono ?_; rintro e wz ⟨rfl, hbz⟩
    go_wp2_with fail
    go_ret
    exact ⟨rfl, (st.below hbz).bel⟩
  | false =>
    have hs := hsm rfl
    have Hs := Lib.hid hs
    clear hsm hs
    go_wp2_with fail
    refine (may_in st (by simp) M1 HM1.out).mono ?_; rintro e w2 ⟨rfl, st2⟩
    clear st
    cases M1 with
    | false =>
      go_wp2_with fail
      refine (worksU_any _).mono ?_; rintro e wz ⟨rfl, hbz⟩
      go_wp2_with fail
      go_ret
      exact ⟨rfl, (st2.below hbz).bel⟩
    | true =>
      go_wp2_with fail
      refine (may_in st2 (xs := ys) (by simp) M2 HM2.out).mono ?_; rintro e w3 ⟨rfl, st3⟩
      clear st2
      cases M2 with
      | false =>
        go_wp2_with fail
        refine (worksU_any _).mono ?_; rintro e wz ⟨rfl, hbz⟩
        go_wp2_with fail
        go_ret
        exact ⟨rfl, (st3.below hbz).bel⟩
      | true =>
        go_wp2_with fail
        refine (may_in st3 (xs := zs) (by simp) M3 HM3.out).mono ?_; rintro e w4 ⟨rfl, st4⟩
        clear st3
        cases M3 with
        | false =>
          go_wp2_with fail
          refine (worksU_any _).mono ?_; rintro e wz ⟨rfl, hbz⟩
          go_wp2_with fail
          go_ret
          exact ⟨rfl, (st4.below hbz).bel⟩
        | true =>
          have gx : Hid (Good xs) := Lib.hid (good_of HM1.out)
          have gy : Hid (Good ys) := Lib.hid (good_of HM2.out)
          have gz : Hid (Good zs) := Lib.hid (good_of HM3.out)
          have hgd : ∀ l ∈ [xs, ys, zs], Good l := by simp [gx.out, gy.out, gz.out]
          have HJ : Hid (eachU joinT [zs, xs, ys] = eachU joinT [xs, ys, zs]) := Lib.hid (each_perm eachJoin (fun _ _ => joinT_perm) (perm3a _ _ _) hgd).symm
          have HS : Hid (eachU sumT [ys, zs, xs] = eachU sumT [xs, ys, zs]) := Lib.hid (each_perm eachSum (fun _ _ => sumT_perm) (perm3b _ _ _) hgd).symm
          have hsa := small_perm (perm3a _ _ _) Hs.out
          have hsb := small_perm (perm3b _ _ _) Hs.out
          have gJ : Hid (Good (eachU joinT [xs, ys, zs])) := Lib.hid (each_good eachJoin hgd)
          have gS : Hid (Good (eachU sumT [xs, ys, zs])) := Lib.hid (each_good eachSum hgd)
          have hq := joinU_good _ 3 3 [xs, ys, zs] _ (ls3_new (st4.get A n c xs (by simp)) (st4.get A' n' c' ys (by simp)) (st4.get A'' n'' c'' zs (by simp))) (by omega) (vars_small' Hs.out) hgd
          have Hq := Lib.hid hq
          replace st4 := st4.alloc (Obj.cells #[.slice A n c, .slice A' n' c', .slice A'' n'' c''] 25)
          have Hsa := Lib.hid hsa
          have Hsb := Lib.hid hsb
          clear hq hgd hsa hsb HM1 HM2 HM3
          go_wp2_with fail
          refine Hq.out.mono ?_; rintro e w5 ⟨A5, n5, c5, rfl, hr5, hb5⟩
          have st5 := (st4.below hb5).add hr5
          clear st4 hb5 hr5 Hq
          have hq := joinU_good _ 3 3 [zs, xs, ys] _ (ls3_new (st5.get A'' n'' c'' zs (by simp)) (st5.get A n c xs (by simp)) (st5.get A' n' c' ys (by simp))) (by omega) (vars_small' Hsa.out) (by simp [gx.out, gy.out, gz.out])
          rw [HJ.out] at hq
          have Hq := Lib.hid hq
          replace st5 := st5.alloc (Obj.cells #[.slice A'' n'' c'', .slice A n c, .slice A' n' c'] 25)
          clear hq
          go_wp2_with fail
          refine Hq.out.mono ?_; rintro e w6 ⟨A6, n6, c6, rfl, hr6, hb6⟩
          have st6 := (st5.below hb6).add hr6
          clear st5 hb6 hr6 Hq
          have hq := sumU_good _ 3 3 [xs, ys, zs] _ (ls3_new (st6.get A n c xs (by simp)) (st6.get A' n' c' ys (by simp)) (st6.get A'' n'' c'' zs (by simp))) (by omega) (vars_small' Hs.out) (by simp [gx.out, gy.out, gz.out])
          have Hq := Lib.hid hq
          replace st6 := st6.alloc (Obj.cells #[.slice A n c, .slice A' n' c', .slice A'' n'' c''] 25)
          clear hq
          go_wp2_with fail
          refine Hq.out.mono ?_; rintro e w7 ⟨A7, n7, c7, rfl, hr7, hb7⟩
          have st7 := (st6.below hb7).add hr7
          clear st6 hb7 hr7 Hq
          have hq := sumU_good _ 3 3 [ys, zs, xs] _ (ls3_new (st7.get A' n' c' ys (by simp)) (st7.get A'' n'' c'' zs (by simp)) (st7.get A n c xs (by simp))) (by omega) (vars_small' Hsb.out) (by simp [gx.out, gy.out, gz.out])
          rw [HS.out] at hq
          have Hq := Lib.hid hq
          replace st7 := st7.alloc (Obj.cells #[.slice A' n' c', .slice A'' n'' c'', .slice A n c] 25)
          clear hq
          go_wp2_with fail
          refine Hq.out.mono ?_; rintro e w8 ⟨A8, n8, c8, rfl, hr8, hb8⟩
          have st8 := (st7.below hb8).add hr8
          clear st7 hb8 hr8 Hq
          have hq := take_yes v A n c xs w8 (st8.get A n c xs (by simp)) gx.out.mayU hv
          have Hq := Lib.hid hq
          clear hq
          go_wp2_with fail
          refine Hq.out.mono ?_; rintro e w9 ⟨At, nt, ct, Ar, nr, cr, rfl, hrt, hrr, hb9⟩
          have hown : ownU xs v = if (ofU xs v).never then [] else [⟨v, ofU xs v⟩] := rfl
          have hback := back_eq gx.out v
          obtain ⟨O, hO⟩ : ∃ O, ownU xs v = O := ⟨_, rfl⟩
          have gO : Hid (Good O) := Lib.hid (by rw [← hO]; exact own_good gx.out v)
          rw [hO] at hown hback
          obtain ⟨T, hT⟩ : ∃ T, ofU xs v = T := ⟨_, rfl⟩
          rw [hT] at hrt hown ⊢
          obtain ⟨R, hR⟩ : ∃ R, (xs.filter fun t => t.v != v) = R := ⟨_, rfl⟩
          have gR : Hid (Good R) := Lib.hid (by rw [← hR]; exact filter_good gx.out _)
          have hlR : R.length ≤ xs.length := by rw [← hR]; exact List.length_filter_le _ _
          rw [hR] at hrr hback
          have Hown := Lib.hid hown
          have Hback := Lib.hid hback
          have hlx : xs.length ≤ 500 := Hs.out.len xs (by simp)
          have HlR : Hid (R.length ≤ 500) := Lib.hid (by omega)
          have st9 := (st8.below hb9).add hrr
          have hbt := below_box (w := w9) (Obj.cells #[.bool T.never, .int .u8 T.c, .slice At nt ct] 37)
          have hkt := blk_new w9 #[.bool T.never, .int .u8 T.c, .slice At nt ct] 37
          replace hrt := (hrt.below hbt).more hbt.size
          replace st9 := st9.below hbt
          clear st8 hb9 hrr Hq hO hT hR hown hback hlx hlR hbt HJ HS Hsa Hsb Hs gy gz hv hnx hny hnz
          go_wp2_with fail
          obtain ⟨W, hW⟩ : ∃ W, w9.alloc (Obj.cells #[.bool T.never, .int .u8 T.c, .slice At nt ct] 37) = W := ⟨_, rfl⟩
          rw [hW] at hrt st9 hkt ⊢
          clear hW
          generalize w9.heap.size = g at hkt ⊢
          have Hrt := Lib.hid hrt
          have Hkt := Lib.hid hkt
          clear hrt hkt
          refine (sameU_any A5 n5 c5 _ A6 n6 c6 _ W (st9.get A5 n5 c5 (eachU joinT [xs, ys, zs]) (by simp)) (st9.get A6 n6 c6 (eachU joinT [xs, ys, zs]) (by simp))).mono ?_; rintro e w10 ⟨rfl, hb10⟩
          rw [decide_eq_true rfl]
          have st10 := st9.below hb10
          have Hbt : Hid (Below W.heap.size W w10) := Lib.hid hb10
          clear st9 hb10
          go_wp2_with fail
          refine (sameU_any A7 n7 c7 _ A8 n8 c8 _ w10 (st10.get A7 n7 c7 (eachU sumT [xs, ys, zs]) (by simp)) (st10.get A8 n8 c8 (eachU sumT [xs, ys, zs]) (by simp))).mono ?_; rintro e w11 ⟨rfl, hb11⟩
          rw [decide_eq_true rfl]
          have st11 := st10.below hb11
          replace Hbt := Lib.hid (Hbt.out.trans (hb11.mono Hbt.out.size))
          clear st10 hb11
          go_wp2_with fail
          refine (usesMay_any A5 n5 c5 _ w11 (st11.get A5 n5 c5 (eachU joinT [xs, ys, zs]) (by simp))).mono ?_; rintro e w12 ⟨rfl, hb12⟩
          rw [mayUE_yes gJ.out.mayU]
          have st12 := st11.below hb12
          replace Hbt := Lib.hid (Hbt.out.trans (hb12.mono Hbt.out.size))
          clear st11 hb12
          go_wp2_with fail
          refine (usesMay_any A7 n7 c7 _ w12 (st12.get A7 n7 c7 (eachU sumT [xs, ys, zs]) (by simp))).mono ?_; rintro e w13 ⟨rfl, hb13⟩
          rw [mayUE_yes gS.out.mayU]
          have st13 := st12.below hb13
          replace Hbt := Lib.hid (Hbt.out.trans (hb13.mono Hbt.out.size))
          clear st12 hb13
          have hkt := Hkt.out.below Hbt.out Hkt.out.lt
          have hrt := (Hrt.out.below Hbt.out).more Hbt.out.size
          have t0 : w13.cell? ⟨g, 0, none⟩ = some (.bool T.never) := hkt.cell 0
          have t1 : w13.cell? ⟨g, 1, none⟩ = some (.int .u8 T.c) := hkt.cell 1
          have t2 : w13.cell? ⟨g, 2, none⟩ = some (.slice At nt ct) := hkt.cell 2
          have Hrt13 := Lib.hid hrt
          clear Hkt Hrt Hbt hkt hrt
          have hfin : ∀ (A2 : Option Addr) (n2 c2 : Nat) (w2 : World), UsesV w2 w2.heap.size A2 n2 c2 O → StU w w2 ((Ar, nr, cr, R) :: (A8, n8, c8, eachU sumT [xs, ys, zs]) :: (A7, n7, c7, eachU sumT [xs, ys, zs]) :: (A6, n6, c6, eachU joinT [xs, ys, zs]) :: (A5, n5, c5, eachU joinT [xs, ys, zs]) :: (A, n, c, xs) :: (A', n', c', ys) :: (A'', n'', c'', zs) :: []) →
              Calls Try.prog 11 #[.slice (some ⟨w2.heap.size, 0, none⟩) 2 2] (w2.alloc (Obj.cells #[.slice Ar nr cr, .slice A2 n2 c2] 25)) (fun e w' => ∃ A3 n3 c3, e = .returned (.tuple #[.slice A3 n3 c3, .int .i64 0]) ∧ UsesV w' w'.heap.size A3 n3 c3 xs ∧ UsesV w' w'.heap.size A n c xs ∧ Below w.heap.size w w') := by
            intro A2 n2 c2 w2 h1 st
            have hOl : O.length ≤ 1 := by
              rw [Hown.out]; cases T.never <;> simp
            have hq := sumU_good _ 2 2 [R, O] _ (ls2_new (st.get Ar nr cr R (by simp)) h1) (by omega) (by have := HlR.out; simp [varsOf]; omega) (by simp [gR.out, gO.out])
            rw [Hback.out] at hq
            refine hq.mono fun e w' ⟨A3, n3, c3, h2, h3, h4⟩ => ?_
            have st' := (st.alloc (Obj.cells #[.slice Ar nr cr, .slice A2 n2 c2] 25)).below h4
            exact ⟨A3, n3, c3, h2, h3, st'.get A n c xs (by simp), st'.bel⟩
          have Hfin := Lib.hid hfin
          clear hfin
          cases hn : T.never with
          | true =>
            rw [hn] at t0
            have hO : O = [] := by rw [Hown.out, hn]; rfl
            have hq := Hfin.out none 0 0 w13 (by rw [hO]; exact UsesV.nil) st13
            have Hq := Lib.hid hq
            clear hq hO hn t1 t2
            go_wp2_with fail
            refine Hq.out.mono ?_; rintro e w15 ⟨A3, n3, c3, rfl, h3, hx, hbel⟩
            clear t0 Hq st13
            go_wp2_with fail
            refine (sameU_any A3 n3 c3 xs A n c xs w15 h3 hx).mono ?_; rintro e w16 ⟨rfl, hb16⟩
            rw [decide_eq_true rfl]
            go_wp2_with fail
            refine (worksU_any _).mono ?_; rintro e wz ⟨rfl, hbz⟩
            go_wp2_with fail
            go_ret
            have h1 := hbel.trans (hb16.mono hbel.size)
            exact ⟨rfl, h1.trans (hbz.mono h1.size)⟩
          | false =>
            rw [hn] at t0
            have hO : O = [⟨v, T⟩] := by rw [Hown.out, hn]; rfl
            have HO := Lib.hid hO
            have Hst := Lib.hid st13
            obtain ⟨Tn, Tc, Tv⟩ := T
            dsimp only at hn t1 Hrt13
            subst hn
            clear hO st13
            go_wp2_with (at_builtin; go_must (refine wpList_append_use w13 w13 rfl (.tmp 109) (.tmp 113) 25 rfl w13.heap.size i2 _ Try.underlying25 hu0 hu1 hu2 hu3 rfl (.slice none 0 0) 0 [] rfl ⟨v, ⟨false, Tc, Tv⟩⟩ At nt ct Hrt13.out (fun h => (by obtain ⟨b, off, e, hb, _⟩ := Hrt13.out.1.2 h; exact ⟨_, e, fun e' => by cases e'⟩)) rfl (OwnU.nil _ _) (by omega) (Below.refl _ _) (Nat.le_refl _) ?_); intro A14 c14 w14 ho14 hb14)
            have hq := Hfin.out A14 1 c14 w14 (by rw [HO.out]; exact ho14.uses.2) (Hst.out.below hb14)
            have Hq := Lib.hid hq
            clear hq ho14 t0 t1 t2
            go_wp2_with fail
            refine Hq.out.mono ?_; rintro e w15 ⟨A3, n3, c3, rfl, h3, hx, hbel⟩
            clear Hq Hst hb14
            go_wp2_with fail
            refine (sameU_any A3 n3 c3 xs A n c xs w15 h3 hx).mono ?_; rintro e w16 ⟨rfl, hb16⟩
            rw [decide_eq_true rfl]
            go_wp2_with fail
            refine (worksU_any _).mono ?_; rintro e wz ⟨rfl, hbz⟩
            go_wp2_with fail
            go_ret
            have h1 := hbel.trans (hb16.mono hbel.size)
            exact ⟨rfl, h1.trans (hbz.mono h1.size)⟩

theorem walk_usesOrder {w : World} (v0 : Value) (h0 : UsesIn w v0) (v1 : Value) (h1 : UsesIn w v1) (v2 : Value) (h2 : UsesIn w v2) (v : Int) (hv : -9223372036854775808 ≤ v ∧ v ≤ 9223372036854775807) :
    Calls Try.prog 4 #[v0, v1, v2, .int .i64 v] w fun e w' => e = .returned (.bool true) ∧ Below w.heap.size w w' := by
  obtain ⟨A, n, c, xs, rfl, hx, hn⟩ := h0
  obtain ⟨A', n', c', ys, rfl, hy, hn'⟩ := h1
  obtain ⟨A'', n'', c'', zs, rfl, hz, hn''⟩ := h2
  exact walkA_usesOrder A n c xs A' n' c' ys A'' n'' c'' zs v hv w hx hy hz hn hn' hn''

/-! ### the row's step -/
namespace usesOrder
set_option maxRecDepth 100000 in
theorem lifted (os : Os) (started : os.Started) (H : Type) (enc : TypeId × Value → H) :
    ReturnsInHanded {} Try.checked os 4 .any (Rows.usesOrderSpec.pre6 enc Try.prog Try.f4 Rows.usesOrderRow.domain false) (Rows.usesOrderSpec.post enc Try.prog Try.f4 false true false false) := by
  refine returnsInHanded_of_change_sized (C := Try.checked) own started (by kernel_rfl) Try.func4
    (ChangeSpec.witness6 (enc := enc) (C := Try.checked) false ⟨#[], #[.slice none 0 0, .slice none 0 0, .slice none 0 0, .int .i64 0], []⟩ 8 (by kernel_rfl) (by kernel_rfl) (by kernel_rfl) (by kernel_rfl)) ?_
  intro W base args ds gs before hval0 hW hcnd hsz0 _
  have hsz : (DataW.weightsEach Try.prog (Try.f4.params.toList ++ Rows.usesOrderSpec.plain.varTypes Try.prog) (ds ++ gs)).all (· ≤ reachBytes) = true := hsz0
  have hval : ∀ (j : Nat) t v, Try.f4.params[j]? = some t → args[j]? = some v → Value.okWide Try.prog W .any base t v := hval0
  have hW' := hW
  obtain ⟨p, q, hA0, hV, rfl, hfz, hnd⟩ := hW
  have hA : DataW.TrodAll enc Try.prog W 0 (fun _ => true) true Try.f4.params.toList args.toList ds p := hA0
  rw [Try.params4] at hA hval hsz
  obtain ⟨v0, vs0, d0, ds0, p0, q0, hargs, rfl, rfl, h0, r_0⟩ := trodAll_cons hA
  obtain ⟨v1, vs1, d1, ds1, p1, q1, rfl, rfl, rfl, h1, r_1⟩ := trodAll_cons r_0
  obtain ⟨v2, vs2, d2, ds2, p2, q2, rfl, rfl, rfl, h2, r_2⟩ := trodAll_cons r_1
  obtain ⟨v3, vs3, d3, ds3, p3, q3, rfl, rfl, rfl, h3, r_3⟩ := trodAll_cons r_2
  obtain ⟨rfl, rfl, rfl⟩ := trodAll_nil r_3
  obtain rfl : args = #[v0, v1, v2, v3] := by cases args; simp_all
  obtain ⟨rfl, rfl⟩ := trodVars_none hV
  have w0 := rd_uses (hval 0 25 v0 rfl rfl) h0 (light_of hsz (j := 0) rfl rfl)
  have w1 := rd_uses (hval 1 25 v1 rfl rfl) h1 (light_of hsz (j := 1) rfl rfl)
  have w2 := rd_uses (hval 2 25 v2 rfl rfl) h2 (light_of hsz (j := 2) rfl rfl)
  obtain ⟨a3, rfl, _, _, w3⟩ := open_int Try.underlying3 (hval 3 3 v3 rfl rfl) h3
  have b3 := bounds_i64 w3
  refine (walk_usesOrder (w := W) v0 w0 v1 w1 v2 w2 a3 b3).mono fun e W' ⟨he, bel⟩ => ?_
  subst he
  exact ⟨_, rfl, law_post laidOut (by kernel_rfl) rfl rfl Try.underlying4 hW' rfl rfl rfl bel⟩
theorem over : Rows.usesOrderRow.holds Try.pinned (OpenSpec.ofChange Rows.usesOrderSpec) :=
  OpenClaim.holds_of_wide 4 Try.f4 rfl rfl rfl rfl rfl rfl rfl ⟨rfl, rfl, rfl, rfl, rfl⟩ rfl rfl rfl rfl rfl (by kernel_rfl) Try.func4 (by kernel_rfl)
    (of_decide_eq_true (by kernel_rfl)) (by unfold Func.isWrapper; first | (rw [if_pos (by decide +kernel)]; kernel_rfl) | (rw [if_neg (by decide +kernel)]; exact ⟨rfl, rfl⟩))
    (fun os started H enc _ => lifted os started H enc)
/-- the statement -/
theorem proved : Rows.UsesOrderSaid := over
#print axioms proved
end usesOrder
end Go.Proofs.Ytimlbpjdgnapoaa
