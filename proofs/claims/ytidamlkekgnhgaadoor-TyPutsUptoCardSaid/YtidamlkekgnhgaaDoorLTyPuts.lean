/- TyPuts holds: what is put, the variables, the numbering and the text of any type are the document's. Conditions: the arguments are of bulk at most 1048576; the variables that the row lists are laid as the program's text lays them. -/
import Derived.Test.YtidamlkekgnhgaaDoorTWf
import Derived.Test.YtidamlkekgnhgaaDoorTWc
import Derived.Deep.DeepHandedRow
namespace Go.Proofs.YtidamlkekgnhgaaDoor
set_option linter.unusedVariables false
set_option linter.unusedSimpArgs false
open Go.ChangeShapes Go.WideShapes Go.ChangeAt Go.RowKit

theorem words_len {ws : List ByteArray} (h : ∀ x ∈ ws, x.size ≤ 1000) {t : TyD} (ht : mayT t = true) (hn : nodes t ≤ 300) : (txB ws t).length ≤ 1099511627776 := by
  have h1 := text_len h ht
  have h2 : (1000 + 64) * nodes t ≤ (1000 + 64) * 300 := Nat.mul_le_mul_left _ hn
  omega
set_option maxRecDepth 100000 in
set_option maxHeartbeats 8000000 in
theorem walk_tyPuts {H : Type} {d0 d1 d2 d3 : DataW H} {w : World} (ht : Tab w) (hk : Rows.uptoBulkAll [d0, d1, d2, d3] ≤ 1048576) (v0 : Value) (h0 : TyB w v0 d0) (v1 : Value) (h1 : TysB w v1 d1) (v2 : Value) (h2 : MusB w v2 d2) (v3 : Value) (h3 : NmB w v3 d3) :
    Calls Tryd.prog 8 #[v0, v1, v2, v3] w fun e w' => e = .returned (.bool true) ∧ Below w.heap.size w w' := by
  obtain ⟨t, A, m, cp, rfl, ha, hna, _⟩ := h0
  obtain ⟨A1, n1, c1, types, rfl, hts, hnt⟩ := h1
  obtain ⟨A3, n3, c3, mults, rfl, hms, hnm, _⟩ := h2
  obtain ⟨A4, n4, c4, words, rfl, hwd, hnw⟩ := h3
  simp only [Rows.uptoBulkAll] at hk
  have hn : nodes t ≤ 1048576 := by omega
  have hnts : ∀ u ∈ types, nodes u ≤ 1048576 := fun u hu => by have := nodes_mem hu; omega
  have hlt1 : n1 ≤ 1048576 := by
    have h1 := hts.len
    have h2 : types.length ≤ nodes.nodesL types := by
      clear h1 hnt hnts hts
      induction types with
      | nil => simp
      | cons x l ih => rw [List.length_cons, nodes.nodesL, nodes_eq x]; omega
    omega
  have hlt3 : n3 ≤ 1048576 := by omega
  have hlt4 : n4 ≤ 1048576 := by omega
  clear hk hna hnt hnm hnw
  obtain ⟨W, hP⟩ := one_new t A m cp w ha
  obtain ⟨r1, hr1⟩ : ∃ r, greatB [t] = r := ⟨_, rfl⟩
  obtain ⟨r2, hr2⟩ : ∃ r, greatB types = r := ⟨_, rfl⟩
  obtain ⟨xa, hxa⟩ : ∃ x, mayTE t = x := ⟨_, rfl⟩
  have Hg := Lib.hid (great_at hr1 _ _ _ W hP.row)
  have Hr2 := Lib.hid hr2
  have Heq := Lib.hid hP.eq
  have HB := Lib.hid hP.bel
  have BT0 := Lib.hid hP.bt
  have HTS := Lib.hid hts
  have HMS := Lib.hid hms
  have HWD := Lib.hid hwd
  have Ht := Lib.hid ht
  have Hxa := Lib.hid hxa
  have Hn := Lib.hid hn
  have Hv1 : Hid ((varsT t).length ≤ 1099511627776) := Lib.hid (by have := @vars_len t; have := allV_le t; omega)
  have Hv2 : Hid ((multsT t).length ≤ 1099511627776) := Lib.hid (by have := @mults_len t; have := allM_le t; omega)
  have Hnts := Lib.hid hnts
  have hsz : W.heap.size = w.heap.size + 1 + 1 := hP.size
  have lent := hts.len
  have lenm := hms.len
  have lenw := hwd.len
  clear hP ht ha hr1 hr2 hxa hn hnts hts hms hwd
  go_enter Tryd.func8, Tryd.ntmps8
  go_wp2_with fail
  rw [Heq.out]
  refine Hg.out.mono ?_; rintro e w1 ⟨rfl, hb1⟩
  replace HB := Lib.hid (HB.out.trans (hb1.mono HB.out.size))
  replace BT0 := Lib.hid (BT0.out.fresh hb1)
  clear hb1 Hg
  cases r1 with
  | true =>
    have hw := HB.out
    go_wp2_with fail
    refine (worksTy_any w1 (Ht.out.below hw)).mono ?_; rintro e w9 ⟨rfl, hb9⟩
    go_wp2_with fail
    go_ret
    exact ⟨rfl, hw.trans (hb9.mono hw.size)⟩
  | false =>
  go_wp2_with fail
  refine (great_at Hr2.out A1 n1 c1 w1 ((HTS.out.below HB.out).more HB.out.size)).mono ?_; rintro e w2 ⟨rfl, hb2⟩
  replace HB := Lib.hid (HB.out.trans (hb2.mono HB.out.size))
  replace BT0 := Lib.hid (BT0.out.fresh hb2)
  clear hb2
  cases r2 with
  | true =>
    have hw := HB.out
    go_wp2_with fail
    refine (worksTy_any w2 (Ht.out.below hw)).mono ?_; rintro e w9 ⟨rfl, hb9⟩
    go_wp2_with fail
    go_ret
    exact ⟨rfl, hw.trans (hb9.mono hw.size)⟩
  | false =>
  by_cases hbig : (n3 : Int) > 1000
  · have db : decide ((n3 : Int) > 1000) = true := by simpa using hbig
    have hw := HB.out
    clear hbig
    go_wp2_with fail
    refine (worksTy_any w2 (Ht.out.below hw)).mono ?_; rintro e w9 ⟨rfl, hb9⟩
    go_wp2_with fail
    go_ret
    exact ⟨rfl, hw.trans (hb9.mono hw.size)⟩
  have db : decide ((n3 : Int) > 1000) = false := by simpa using hbig
  clear hbig
  by_cases hbig : (n4 : Int) > 100
  · have dc : decide ((n4 : Int) > 100) = true := by simpa using hbig
    have hw := HB.out
    clear hbig
    go_wp2_with fail
    refine (worksTy_any w2 (Ht.out.below hw)).mono ?_; rintro e w9 ⟨rfl, hb9⟩
    go_wp2_with fail
    go_ret
    exact ⟨rfl, hw.trans (hb9.mono hw.size)⟩
  have dc : decide ((n4 : Int) > 100) = false := by simpa using hbig
  clear hbig
  obtain ⟨a0, a1, a2, a3, a4⟩ := BT0.out.five
  obtain ⟨x, hx⟩ : ∃ x, putT t types mults = x := ⟨_, rfl⟩
  obtain ⟨ex, hex⟩ : ∃ x, putE t types mults = x := ⟨_, rfl⟩
  have Hx := Lib.hid hx
  have Hex := Lib.hid hex
  clear hx hex
  go_wp2_with fail
  refine (put_u Hx.out Hex.out A m cp A1 n1 c1 A3 n3 c3 w2 BT0.out.2 ((HTS.out.below HB.out).more HB.out.size) ((HMS.out.below HB.out).more HB.out.size) (by omega)).mono ?_; rintro e w3 ⟨X, mx, cx, rfl, hX, hb3⟩
  have hbx := below_box (w := w3) (Obj.cells #[.int .u8 x.k, .int .i64 x.n, .int .i64 x.v, .int .u8 x.c, .slice X mx cx] 27)
  have hbX := BT.new hX
  have hb4 := hb3.trans (hbx.mono hb3.size)
  replace HB := Lib.hid (HB.out.trans (hb4.mono HB.out.size))
  replace BT0 := Lib.hid (BT0.out.fresh hb4)
  clear a0 a1 a2 a3 a4
  obtain ⟨a0, a1, a2, a3, a4⟩ := BT0.out.five
  obtain ⟨w4, hw4⟩ : ∃ W, w3.alloc (Obj.cells #[.int .u8 x.k, .int .i64 x.n, .int .i64 x.v, .int .u8 x.c, .slice X mx cx] 27) = W := ⟨_, rfl⟩
  rw [hw4] at hbX HB BT0
  have Hw4 := Lib.hid hw4
  have BX := Lib.hid hbX
  clear hX hb3 hbx hb4 hbX hw4 db dc
  obtain ⟨q0, hq0⟩ : ∃ q, (xa == 0) = q := ⟨_, rfl⟩
  go_wp2_with fail
  rw [Hw4.out]
  refine (refTyMay_at Hxa.out A m cp w4 BT0.out.2).mono ?_; rintro e w5 ⟨rfl, hb5⟩
  replace HB := Lib.hid (HB.out.trans (hb5.mono HB.out.size))
  replace BT0 := Lib.hid (BT0.out.fresh hb5)
  replace BX := Lib.hid (BX.out.fresh hb5)
  have Hq0 : Hid ((mayTE t == 0) = q0) := Lib.hid (by rw [Hxa.out]; exact hq0)
  clear hb5 a0 a1 a2 a3 a4 Hw4
  go_wp2_with fail
  clear hq0
  go_loopg [11, 55] n1 (fun gh ok i wr => ∃ (k : Nat) (q : Bool), k ≤ n1 ∧ gh = n1 - k ∧ i = .int .i64 k ∧ ok = .bool q ∧ (q0 && (types.take k).all fun y => mayTE y == 0) = q ∧ Below w5.heap.size w5 wr)
  case atStart => exact ⟨0, q0, Nat.zero_le _, rfl, rfl, rfl, by simp, Below.refl _ _⟩
  case round =>
    obtain ⟨k, q, hk, rfl, rfl, rfl, hq, hbel⟩ := hrel
    have hWr := HB.out.trans (hbel.mono HB.out.size)
    by_cases hkn : k < n1
    · have d3 : decide (k < n1) = true := by simpa using hkn
      have hk' : k < types.length := by omega
      obtain ⟨b, off, rfl, hb, hc⟩ := (HTS.out.below hWr).at_ (by omega)
      obtain ⟨e0, e1, e2, e3, Au, mu, cu, e4, hu⟩ := tyAt_iff.1 (hc k hk')
      have hst : (q0 && (types.take (k + 1)).all fun y => mayTE y == 0) = (q && (mayTE types[k] == 0)) := by
        rw [List.take_succ_eq_append_getElem hk', List.all_append, ← hq, Bool.and_assoc]
        simp
      obtain ⟨u, huk⟩ : ∃ u, types[k] = u := ⟨_, rfl⟩
      rw [huk] at e0 e1 e2 e3 hu hst
      have k1 : (0 : Int) ≤ (k : Int) := by omega
      have k2 : (k : Int) < n1 := by omega
      have hbx := below_box (w := wr) (Obj.cells #[.int .u8 u.k, .int .i64 u.n, .int .i64 u.v, .int .u8 u.c, .slice Au mu cu] 27)
      cases q with
      | false =>
        have Hst := Lib.hid hst
        have Hbel := Lib.hid hbel
        have Hbx := Lib.hid hbx
        clear hc hu hst huk hq hbel hbx
        go_wp2_with fail
        go_roundg (n1 - (k + 1))
        case measure => omega
        case rel => exact ⟨k + 1, false, by omega, rfl, by go_num, rfl, by rw [Hst.out]; rfl, Hbel.out.trans (Hbx.out.mono Hbel.out.size)⟩
      | true =>
        obtain ⟨W1, hW1⟩ : ∃ W1, wr.alloc (Obj.cells #[.int .u8 u.k, .int .i64 u.n, .int .i64 u.v, .int .u8 u.c, .slice Au mu cu] 27) = W1 := ⟨_, rfl⟩
        have hbU := BT.new (w := wr) (t := u) (hu.more hWr.size)
        rw [hW1] at hbx hbU
        obtain ⟨xu, hxu⟩ : ∃ x, mayTE u = x := ⟨_, rfl⟩
        obtain ⟨q1, hq1⟩ : ∃ q, (xu == 0) = q := ⟨_, rfl⟩
        have Hq := Lib.hid (refTyMay_at hxu Au mu cu W1 hbU.2)
        have Hst : Hid ((q0 && (types.take (k + 1)).all fun y => mayTE y == 0) = q1) := Lib.hid (by rw [hst, hxu, hq1]; rfl)
        have HW1 := Lib.hid hW1
        have Hbel := Lib.hid hbel
        have Hbx := Lib.hid hbx
        clear hc hu hst huk hq hbel hbx hxu hW1 hbU
        go_wp2_with fail
        rw [HW1.out]
        refine Hq.out.mono ?_; rintro e w6 ⟨rfl, hb6⟩
        go_wp2_with fail
        go_roundg (n1 - (k + 1))
        case measure => omega
        case rel => exact ⟨k + 1, q1, by omega, rfl, by go_num, rfl, Hst.out, Hbel.out.trans ((Hbx.out.trans (hb6.mono Hbx.out.size)).mono Hbel.out.size)⟩
    · have d3 : decide (k < n1) = false := by simpa using hkn
      have hall : types.take k = types := List.take_of_length_le (by omega)
      rw [hall] at hq
      replace HB := Lib.hid (HB.out.trans (hbel.mono HB.out.size))
      replace BT0 := Lib.hid (BT0.out.fresh hbel)
      replace BX := Lib.hid (BX.out.fresh hbel)
      have Hq := Lib.hid hq
      clear hbel hWr hall hq hk hkn
      obtain ⟨w6, hw6⟩ : ∃ x, x = wr := ⟨_, rfl⟩
      subst hw6
      obtain ⟨qt, hqt⟩ : ∃ p, q = p := ⟨_, rfl⟩
      rw [hqt] at Hq ⊢
      clear hqt
      go_wp2_with fail
      go_loopg [11, 68] n3 (fun gh ok i wr => ∃ (k : Nat) (q : Bool), k ≤ n3 ∧ gh = n3 - k ∧ i = .int .i64 k ∧ ok = .bool q ∧ (qt && (mults.take k).all fun y => isB y.2 y.1) = q ∧ Below w6.heap.size w6 wr)
      case atStart => exact ⟨0, qt, Nat.zero_le _, rfl, rfl, rfl, by simp, Below.refl _ _⟩
      case round =>
        obtain ⟨k, q, hk, rfl, rfl, rfl, hq, hbel⟩ := hrel
        have hWr := HB.out.trans (hbel.mono HB.out.size)
        by_cases hkn : k < n3
        · have d4 : decide (k < n3) = true := by simpa using hkn
          have hk' : k < mults.length := by omega
          obtain ⟨b, off, rfl, hb, hc⟩ := (HMS.out.below hWr).2.2.2 (by omega)
          obtain ⟨e0, e1⟩ := hc k hk'
          have hst : (qt && (mults.take (k + 1)).all fun y => isB y.2 y.1) = (q && isB mults[k].2 mults[k].1) := by
            rw [List.take_succ_eq_append_getElem hk', List.all_append, ← hq, Bool.and_assoc]
            simp
          obtain ⟨u, huk⟩ : ∃ u, mults[k] = u := ⟨_, rfl⟩
          rw [huk] at e0 e1 hst
          have k1 : (0 : Int) ≤ (k : Int) := by omega
          have k2 : (k : Int) < n3 := by omega
          have hbx := below_box (w := wr) (Obj.cells #[.int .i64 u.1, .int .u8 u.2] 24)
          cases q with
          | false =>
            have Hst := Lib.hid hst
            have Hbel := Lib.hid hbel
            have Hbx := Lib.hid hbx
            clear hc hst huk hq hbel hbx
            go_wp2_with fail
            go_roundg (n3 - (k + 1))
            case measure => omega
            case rel => exact ⟨k + 1, false, by omega, rfl, by go_num, rfl, by rw [Hst.out]; rfl, Hbel.out.trans (Hbx.out.mono Hbel.out.size)⟩
          | true =>
            obtain ⟨q1, hq1⟩ : ∃ q, isB u.2 u.1 = q := ⟨_, rfl⟩
            have Hst : Hid ((qt && (mults.take (k + 1)).all fun y => isB y.2 y.1) = q1) := Lib.hid (by rw [hst, hq1]; rfl)
            have Hbel := Lib.hid hbel
            have Hbx := Lib.hid hbx
            have Hq := Lib.hid (refIs_any u.2 u.1 (wr.alloc (Obj.cells #[.int .i64 u.1, .int .u8 u.2] 24)))
            rw [hq1] at Hq
            clear hc hst huk hq hbel hbx hq1
            go_wp2_with fail
            refine Hq.out.mono ?_; rintro e w6 ⟨rfl, hb6⟩
            go_wp2_with fail
            go_roundg (n3 - (k + 1))
            case measure => omega
            case rel => exact ⟨k + 1, q1, by omega, rfl, by go_num, rfl, Hst.out, Hbel.out.trans ((Hbx.out.trans (hb6.mono Hbx.out.size)).mono Hbel.out.size)⟩
        · have d4 : decide (k < n3) = false := by simpa using hkn
          have hall : mults.take k = mults := List.take_of_length_le (by omega)
          rw [hall] at hq
          replace HB := Lib.hid (HB.out.trans (hbel.mono HB.out.size))
          replace BT0 := Lib.hid (BT0.out.fresh hbel)
          replace BX := Lib.hid (BX.out.fresh hbel)
          have hbad : (!putBad t types mults) = q := by rw [← bad_eq, Hq0.out, Hq.out]; exact hq
          clear hbel hWr hall hq hk hkn Hq Hq0
          cases q with
          | false =>
            have hbd : putBad t types mults = true := by simpa using hbad
            obtain ⟨p1, p2⟩ := put_bad hbd
            rw [Hex.out] at p1
            rw [Hx.out] at p2
            subst p1; subst p2
            clear hbad hbd
            have b0 := BX.out.five
            obtain ⟨b0, b1, b2, b3, b4⟩ := b0
            have hsz0 : sameT nilT nilT = true := (sameT_iff nilT nilT).2 rfl
            have Hs := Lib.hid (same_at (a := nilT) (b := nilT) hsz0 X mx cx none 0 0 wr BX.out.2 TysV.nil)
            have hw := HB.out
            clear hsz0
            go_wp2_with fail
            refine Hs.out.mono ?_; rintro e w11 ⟨rfl, hb11⟩
            have hw2 := hw.trans (hb11.mono hw.size)
            go_wp2_with fail
            refine (worksTy_any w11 (Ht.out.below hw2)).mono ?_; rintro e w9 ⟨rfl, hb9⟩
            go_wp2_with fail
            go_ret
            exact ⟨rfl, hw2.trans (hb9.mono hw2.size)⟩
          | true =>
            have hbd : putBad t types mults = false := by simpa using hbad
            obtain ⟨g1, g2, _⟩ := (putBad_iff Hn.out Hnts.out).1 hbd
            have hgd := put_good Hn.out Hnts.out hbd
            obtain ⟨z, hz⟩ : ∃ z, turnT (putV types) (putM mults) t = z := ⟨_, rfl⟩
            rw [hz, Hex.out, Hx.out] at hgd
            have Hgd := Lib.hid hgd
            have Hg1 := Lib.hid g1
            have hq := refPut_go wr.heap.size A1 n1 c1 types A3 n3 c3 mults (nodes t) t (Nat.le_refl _) g1.1 A m cp wr BT0.out.2 ((HTS.out.below HB.out).more HB.out.size) (Nat.le_refl _) ((HMS.out.below HB.out).more HB.out.size)
            rw [hz] at hq
            have Hq := Lib.hid hq
            obtain ⟨a0, a1, a2, a3, a4⟩ := BT0.out.five
            clear hbad hbd hgd g1 g2 hq
            go_wp2_with fail
            refine Hq.out.mono ?_; rintro e w8 ⟨Z, mz, cz, rfl, hZ0, hb8⟩
            have hZ : TysV w8 w8.heap.size Z mz cz z.l := hZ0.lt fun b hb => by have := hb8.size; omega
            have hbx := below_box (w := w8) (Obj.cells #[.int .u8 z.k, .int .i64 z.n, .int .i64 z.v, .int .u8 z.c, .slice Z mz cz] 27)
            have hbZ := BT.new hZ
            have hb9 := hb8.trans (hbx.mono hb8.size)
            replace HB := Lib.hid (HB.out.trans (hb9.mono HB.out.size))
            replace BT0 := Lib.hid (BT0.out.fresh hb9)
            replace BX := Lib.hid (BX.out.fresh hb9)
            obtain ⟨w9, hw9⟩ : ∃ W, w8.alloc (Obj.cells #[.int .u8 z.k, .int .i64 z.n, .int .i64 z.v, .int .u8 z.c, .slice Z mz cz] 27) = W := ⟨_, rfl⟩
            obtain ⟨sz, hsz2⟩ : ∃ s, sizeW z = s := ⟨_, rfl⟩
            rw [hw9] at hbZ HB BT0 BX
            have Hw9 := Lib.hid hw9
            have BZ := Lib.hid hbZ
            have Hsz2 := Lib.hid hsz2
            clear hZ0 hZ hb8 hbx hbZ hb9 hw9 hsz2 Hq a0 a1 a2 a3 a4
            go_wp2_with fail
            rw [Hw9.out]
            refine (refSize_at Hsz2.out Z mz cz w9 BZ.out.2).mono ?_; rintro e w10 ⟨rfl, hb10⟩
            replace HB := Lib.hid (HB.out.trans (hb10.mono HB.out.size))
            replace BT0 := Lib.hid (BT0.out.fresh hb10)
            replace BX := Lib.hid (BX.out.fresh hb10)
            replace BZ := Lib.hid (BZ.out.fresh hb10)
            clear hb10 Hw9
            by_cases hl : sz > 300
            · have dl : decide (sz > 300) = true := by simpa using hl
              obtain ⟨p1, p2⟩ := Hgd.out.1 (by rw [Hsz2.out]; exact hl)
              clear Hgd hl
              subst p1; subst p2
              have b0 := BX.out.five
              obtain ⟨b0, b1, b2, b3, b4⟩ := b0
              have hsz0 : sameT nilT nilT = true := (sameT_iff nilT nilT).2 rfl
              have Hs := Lib.hid (same_at (a := nilT) (b := nilT) hsz0 X mx cx none 0 0 w10 BX.out.2 TysV.nil)
              have hw := HB.out
              clear hsz0
              go_wp2_with fail
              refine Hs.out.mono ?_; rintro e w11 ⟨rfl, hb11⟩
              have hw2 := hw.trans (hb11.mono hw.size)
              go_wp2_with fail
              refine (worksTy_any w11 (Ht.out.below hw2)).mono ?_; rintro e w9 ⟨rfl, hb9⟩
              go_wp2_with fail
              go_ret
              exact ⟨rfl, hw2.trans (hb9.mono hw2.size)⟩
            · have dl : decide (sz > 300) = false := by simpa using hl
              obtain ⟨p1, p2⟩ := Hgd.out.2 (by rw [Hsz2.out]; omega)
              clear Hgd hl
              subst p1; subst p2
              obtain ⟨a0, a1, a2, a3, a4⟩ := BT0.out.five
              go_wp2_with fail
              refine (vars_any t A m cp w10 BT0.out.2 Hv1.out Hv2.out).mono ?_; rintro e w11 ⟨A5, n5, c5, A6, n6, c6, rfl, ho5, ho6, hne, hb11⟩
              replace HB := Lib.hid (HB.out.trans (hb11.mono HB.out.size))
              replace BT0 := Lib.hid (BT0.out.fresh hb11)
              replace BX := Lib.hid (BX.out.fresh hb11)
              replace BZ := Lib.hid (BZ.out.fresh hb11)
              clear dl a0 a1 a2 a3 a4
              obtain ⟨l1, hl1⟩ : ∃ l, varsT t = l := ⟨_, rfl⟩
              obtain ⟨l2, hl2⟩ : ∃ l, multsT t = l := ⟨_, rfl⟩
              obtain ⟨c, hc⟩ : ∃ l, canT t = l := ⟨_, rfl⟩
              rw [hl1] at ho5
              rw [hl2] at ho6
              have R5 := Lib.hid (RdI.of_own ho5)
              have R6 := Lib.hid (RdI.of_own ho6)
              have Hl1 := Lib.hid hl1
              have Hl2 := Lib.hid hl2
              have Hc := Lib.hid hc
              clear ho5 ho6 hne hb11 hl1 hl2 hc
              obtain ⟨a0, a1, a2, a3, a4⟩ := BT0.out.five
              have Hq2 := Lib.hid (canon_u Hc.out Hl1.out Hl2.out Hg1.out.1 A m cp w11 BT0.out.2)
              go_wp2_with fail
              refine Hq2.out.mono ?_; rintro e w12 ⟨C, mc, cc, A7, n7, c7, A8, n8, c8, rfl, hC, h7, h8, hb12⟩
              have hbx := below_box (w := w12) (Obj.cells #[.int .u8 c.k, .int .i64 c.n, .int .i64 c.v, .int .u8 c.c, .slice C mc cc] 27)
              have hbC := BT.new hC
              have hb13 := hb12.trans (hbx.mono hb12.size)
              replace HB := Lib.hid (HB.out.trans (hb13.mono HB.out.size))
              replace BT0 := Lib.hid (BT0.out.fresh hb13)
              replace BX := Lib.hid (BX.out.fresh hb13)
              replace BZ := Lib.hid (BZ.out.fresh hb13)
              replace R5 := Lib.hid (RdI.fresh R5.out hb13)
              replace R6 := Lib.hid (RdI.fresh R6.out hb13)
              have r7 := RdI.fresh h7 hbx
              have r8 := RdI.fresh h8 hbx
              clear a0 a1 a2 a3 a4
              obtain ⟨a0, a1, a2, a3, a4⟩ := BT0.out.five
              obtain ⟨w13, hw13⟩ : ∃ W, w12.alloc (Obj.cells #[.int .u8 c.k, .int .i64 c.n, .int .i64 c.v, .int .u8 c.c, .slice C mc cc] 27) = W := ⟨_, rfl⟩
              rw [hw13] at hbC HB BT0 BX BZ R5 R6 r7 r8
              have Hw13 := Lib.hid hw13
              have BC := Lib.hid hbC
              have R7 := Lib.hid r7
              have R8 := Lib.hid r8
              have Hq3 := Lib.hid (refVars_any Hl1.out Hl2.out A m cp w13 BT0.out.2 (by have := Hn.out; omega))
              clear hC h7 h8 hb12 hbx hbC hb13 r7 r8 hw13 Hq2
              go_wp2_with fail
              rw [Hw13.out]
              refine Hq3.out.mono ?_; rintro e w14 ⟨A9, n9, c9, A10, n10, c10, rfl, h9, h10, hb14⟩
              have hbx := below_box (w := w14) (Obj.cells #[.slice A9 n9 c9, .slice A10 n10 c10] 62)
              have hbS := blk_new w14 #[.slice A9 n9 c9, .slice A10 n10 c10] 62
              have hb15 := hb14.trans (hbx.mono hb14.size)
              replace HB := Lib.hid (HB.out.trans (hb15.mono HB.out.size))
              replace BT0 := Lib.hid (BT0.out.fresh hb15)
              replace BX := Lib.hid (BX.out.fresh hb15)
              replace BZ := Lib.hid (BZ.out.fresh hb15)
              replace R5 := Lib.hid (RdI.fresh R5.out hb15)
              replace R6 := Lib.hid (RdI.fresh R6.out hb15)
              replace BC := Lib.hid (BC.out.fresh hb15)
              replace R7 := Lib.hid (RdI.fresh R7.out hb15)
              replace R8 := Lib.hid (RdI.fresh R8.out hb15)
              have r9 := RdI.fresh h9 hbx
              have r10 := RdI.fresh h10 hbx
              clear a0 a1 a2 a3 a4
              obtain ⟨w15, hw15⟩ : ∃ W, w14.alloc (Obj.cells #[.slice A9 n9 c9, .slice A10 n10 c10] 62) = W := ⟨_, rfl⟩
              rw [hw15] at hbS HB BT0 BX BZ BC R5 R6 R7 R8 r9 r10
              have Hw15 := Lib.hid hw15
              have R9 := Lib.hid r9
              have R10 := Lib.hid r10
              have HBS := Lib.hid hbS
              clear h9 h10 hb14 hbx hbS hb15 r9 r10 hw15 Hq3 Hw13
              go_wp2_with fail
              rw [Hw15.out]
              have lt := BT0.out.lt
              have lx := BX.out.lt
              have lz := BZ.out.lt
              have lc := BC.out.lt
              have ls := HBS.out.lt
              obtain ⟨a0, a1, a2, a3, a4⟩ := BT0.out.five
              obtain ⟨x0, x1, x2, x3, x4⟩ := BX.out.five
              obtain ⟨z0, z1, z2, z3, z4⟩ := BZ.out.five
              obtain ⟨c0, c1', c2', c3', c4'⟩ := BC.out.five
              have s0 := HBS.out.cell 0
              have s1 := HBS.out.cell 1
              have hsame : sameT x x = true := (sameT_iff x x).2 rfl
              have hsamc : sameT c c = true := (sameT_iff c c).2 rfl
              have Hsz := Lib.hid hsame
              have Hsc := Lib.hid hsamc
              clear hsame hsamc
              have hbS : Below w15.heap.size w15 w15.drew := Below.drew (Below.refl _ _)
              have st0 := trivial
              go_region_held3 (fun w' => w'.cell? ⟨w.heap.size, 0, none⟩ = some (.int .u8 t.k) ∧ w'.cell? ⟨w.heap.size, 1, none⟩ = some (.int .i64 t.n) ∧ w'.cell? ⟨w.heap.size, 2, none⟩ = some (.int .i64 t.v) ∧ w'.cell? ⟨w.heap.size, 3, none⟩ = some (.int .u8 t.c) ∧ w'.cell? ⟨w.heap.size, 4, none⟩ = some (.slice A m cp) ∧
                  w'.cell? ⟨w3.heap.size, 0, none⟩ = some (.int .u8 x.k) ∧ w'.cell? ⟨w3.heap.size, 1, none⟩ = some (.int .i64 x.n) ∧ w'.cell? ⟨w3.heap.size, 2, none⟩ = some (.int .i64 x.v) ∧ w'.cell? ⟨w3.heap.size, 3, none⟩ = some (.int .u8 x.c) ∧ w'.cell? ⟨w3.heap.size, 4, none⟩ = some (.slice X mx cx) ∧
                  w'.cell? ⟨w8.heap.size, 0, none⟩ = some (.int .u8 x.k) ∧ w'.cell? ⟨w8.heap.size, 1, none⟩ = some (.int .i64 x.n) ∧ w'.cell? ⟨w8.heap.size, 2, none⟩ = some (.int .i64 x.v) ∧ w'.cell? ⟨w8.heap.size, 3, none⟩ = some (.int .u8 x.c) ∧ w'.cell? ⟨w8.heap.size, 4, none⟩ = some (.slice Z mz cz) ∧
                  w'.cell? ⟨w12.heap.size, 0, none⟩ = some (.int .u8 c.k) ∧ w'.cell? ⟨w12.heap.size, 1, none⟩ = some (.int .i64 c.n) ∧ w'.cell? ⟨w12.heap.size, 2, none⟩ = some (.int .i64 c.v) ∧ w'.cell? ⟨w12.heap.size, 3, none⟩ = some (.int .u8 c.c) ∧ w'.cell? ⟨w12.heap.size, 4, none⟩ = some (.slice C mc cc) ∧
                  w'.cell? ⟨w14.heap.size, 0, none⟩ = some (.slice A9 n9 c9) ∧ w'.cell? ⟨w14.heap.size, 1, none⟩ = some (.slice A10 n10 c10))
                (first | (go_keep; done) | exact ⟨(hbS.cell (p := ⟨w.heap.size, 0, none⟩) lt).trans a0, (hbS.cell (p := ⟨w.heap.size, 1, none⟩) lt).trans a1, (hbS.cell (p := ⟨w.heap.size, 2, none⟩) lt).trans a2, (hbS.cell (p := ⟨w.heap.size, 3, none⟩) lt).trans a3, (hbS.cell (p := ⟨w.heap.size, 4, none⟩) lt).trans a4,
                  (hbS.cell (p := ⟨w3.heap.size, 0, none⟩) lx).trans x0, (hbS.cell (p := ⟨w3.heap.size, 1, none⟩) lx).trans x1, (hbS.cell (p := ⟨w3.heap.size, 2, none⟩) lx).trans x2, (hbS.cell (p := ⟨w3.heap.size, 3, none⟩) lx).trans x3, (hbS.cell (p := ⟨w3.heap.size, 4, none⟩) lx).trans x4,
                  (hbS.cell (p := ⟨w8.heap.size, 0, none⟩) lz).trans z0, (hbS.cell (p := ⟨w8.heap.size, 1, none⟩) lz).trans z1, (hbS.cell (p := ⟨w8.heap.size, 2, none⟩) lz).trans z2, (hbS.cell (p := ⟨w8.heap.size, 3, none⟩) lz).trans z3, (hbS.cell (p := ⟨w8.heap.size, 4, none⟩) lz).trans z4,
                  (hbS.cell (p := ⟨w12.heap.size, 0, none⟩) lc).trans c0, (hbS.cell (p := ⟨w12.heap.size, 1, none⟩) lc).trans c1', (hbS.cell (p := ⟨w12.heap.size, 2, none⟩) lc).trans c2', (hbS.cell (p := ⟨w12.heap.size, 3, none⟩) lc).trans c3', (hbS.cell (p := ⟨w12.heap.size, 4, none⟩) lc).trans c4',
                  (hbS.cell (p := ⟨w14.heap.size, 0, none⟩) ls).trans s0, (hbS.cell (p := ⟨w14.heap.size, 1, none⟩) ls).trans s1⟩)
                ((first
                  | (go_at_call 21; clear st0; have st1 := trivial; refine (same_at Hsz.out X mx cx Z mz cz _ (BX.out.2.fresh hbS) (BZ.out.2.fresh hbS)).mono ?_; rintro e wx ⟨rfl, hbx⟩; replace hbS := hbS.trans (hbx.mono hbS.size); clear hbx)
                  | (go_at_call 37; clear st1; have st2 := trivial; refine (equalI_any (RdI.fresh R5.out hbS) (RdI.fresh R9.out hbS) rfl).mono ?_; rintro e wx ⟨rfl, hbx⟩; replace hbS := hbS.trans (hbx.mono hbS.size); clear hbx)
                  | (go_at_call 37; clear st2; have st3 := trivial; refine (equalI_any (RdI.fresh R6.out hbS) (RdI.fresh R10.out hbS) rfl).mono ?_; rintro e wx ⟨rfl, hbx⟩; replace hbS := hbS.trans (hbx.mono hbS.size); clear hbx)
                  | (go_at_call 37; clear st3; have st4 := trivial; refine (equalI_any (RdI.fresh R7.out hbS) (RdI.fresh R5.out hbS) rfl).mono ?_; rintro e wx ⟨rfl, hbx⟩; replace hbS := hbS.trans (hbx.mono hbS.size); clear hbx)
                  | (go_at_call 37; clear st4; have st5 := trivial; refine (equalI_any (RdI.fresh R8.out hbS) (RdI.fresh R6.out hbS) rfl).mono ?_; rintro e wx ⟨rfl, hbx⟩; replace hbS := hbS.trans (hbx.mono hbS.size); clear hbx)
                  | (go_at_call 38; clear st5; have st6 := trivial; refine (refCanon_any Hc.out Hg1.out.1 A m cp _ (BT0.out.2.fresh hbS) (by have := Hn.out; omega)).mono ?_; rintro e wx ⟨A11, m11, c11, rfl, h11, hbx⟩; replace hbS := hbS.trans (hbx.mono hbS.size); clear hbx)
                  | (go_at_call 21; clear st6; have st7 := trivial; refine (same_at Hsc.out C mc cc A11 m11 c11 _ (BC.out.2.fresh hbS) h11).mono ?_; rintro e wx ⟨rfl, hbx⟩; replace hbS := hbS.trans (hbx.mono hbS.size); clear hbx h11)))
              all_goals
                clear a0 a1 a2 a3 a4 x0 x1 x2 x3 x4 z0 z1 z2 z3 z4 c0 c1' c2' c3' c4' s0 s1
                have Hb16 := Lib.hid hbS
                clear hbS
                go_wp2_with fail
                go_loopg [163] n4 (fun gh i wr => ∃ (k : Nat), k ≤ n4 ∧ gh = n4 - k ∧ i = .int .i64 k ∧ Below w15.heap.size w15 wr ∧ ∀ j (h : j < words.length), j < k → words[j].size ≤ 1000 ∧ (32 : UInt8) ∉ words[j].data.toList)
                case atStart => exact ⟨0, Nat.zero_le _, rfl, rfl, Hb16.out, fun j _ hj => absurd hj (by omega)⟩
                case round =>
                  obtain ⟨k, hk, rfl, rfl, hbel, hwk⟩ := hrel
                  have hWr := HB.out.trans (hbel.mono HB.out.size)
                  by_cases hkn : k < n4
                  · have d5 : decide (k < n4) = true := by simpa using hkn
                    have hk' : k < words.length := by omega
                    obtain ⟨b, off, rfl, hcw⟩ := (HWD.out.below hWr).cells (by omega)
                    have e0 := hcw k hk'
                    obtain ⟨s, hs⟩ : ∃ s, words[k] = s := ⟨_, rfl⟩
                    rw [List.getD_eq_getElem?_getD, List.getElem?_eq_getElem hk', Option.getD_some, hs] at e0
                    have k1 : (0 : Int) ≤ (k : Int) := by omega
                    have k2 : (k : Int) < n4 := by omega
                    have Hwk := Lib.hid hwk
                    have Hs := Lib.hid hs
                    have HWr := Lib.hid hWr
                    have Hbel := Lib.hid hbel
                    clear hcw hwk hs hWr hbel
                    by_cases hbig : (s.size : Int) > 1000
                    · have d6 : decide ((s.size : Int) > 1000) = true := by simpa using hbig
                      have hw := HWr.out
                      clear hbig
                      go_wp2_with fail
                      refine (worksTy_any wr (Ht.out.below hw)).mono ?_; rintro e w9 ⟨rfl, hb9⟩
                      go_wp2_with fail
                      go_ret
                      exact ⟨rfl, hw.trans (hb9.mono hw.size)⟩
                    · have d6 : decide ((s.size : Int) > 1000) = false := by simpa using hbig
                      have hs1 : s.size ≤ 1000 := by omega
                      clear hbig
                      obtain ⟨r, hr⟩ : ∃ r, decide ((32 : UInt8) ∈ s.data.toList) = r := ⟨_, rfl⟩
                      have Hq := Lib.hid (blank_any s wr hr)
                      cases r with
                      | true =>
                        have hw := HWr.out
                        clear hr
                        go_wp2_with fail
                        refine Hq.out.mono ?_; rintro e w17 ⟨rfl, rfl⟩
                        go_wp2_with fail
                        refine (worksTy_any wr (Ht.out.below hw)).mono ?_; rintro e w9 ⟨rfl, hb9⟩
                        go_wp2_with fail
                        go_ret
                        exact ⟨rfl, hw.trans (hb9.mono hw.size)⟩
                      | false =>
                        have hr2 : (32 : UInt8) ∉ s.data.toList := by simpa using hr
                        have Hr2 := Lib.hid hr2
                        clear hr hr2
                        go_wp2_with fail
                        refine Hq.out.mono ?_; rintro e w17 ⟨rfl, rfl⟩
                        go_wp2_with fail
                        go_roundg (n4 - (k + 1))
                        case measure => omega
                        case rel => exact ⟨k + 1, by omega, rfl, by go_num, Hbel.out, fun j hj hjk => by
                          rcases Nat.lt_or_ge j k with h | h
                          · exact Hwk.out j hj h
                          · obtain rfl : j = k := by omega
                            rw [Hs.out]; exact ⟨hs1, Hr2.out⟩⟩
                  · have d5 : decide (k < n4) = false := by simpa using hkn
                    have hall : ∀ x ∈ words, x.size ≤ 1000 ∧ (32 : UInt8) ∉ x.data.toList := fun x hx => by
                      obtain ⟨i, hi, rfl⟩ := List.getElem_of_mem hx
                      exact hwk i hi (by omega)
                    have hlen := words_len (fun x hx => (hall x hx).1) Hg1.out.1 Hg1.out.2
                    obtain ⟨S, hS⟩ : ∃ S, (⟨(txB words t).toArray⟩ : ByteArray) = S := ⟨_, rfl⟩
                    have htx := refText_go A4 n4 c4 words (fun x hx => (hall x hx).2) (nodes t) t (Nat.le_refl _) Hg1.out.1 hlen S hS A m cp
                    have Htx := Lib.hid htx
                    have HS := Lib.hid hS
                    have Hlen : Hid ((txB words t).length ≤ 140737488355328) := Lib.hid (by omega)
                    have Bt := Lib.hid (BT0.out.fresh hbel)
                    have HWr := Lib.hid hWr
                    have hd : (S.toList == S.toList) = true := by simp
                    have lt1 := Bt.out.lt
                    obtain ⟨a0, a1, a2, a3, a4⟩ := Bt.out.five
                    clear hall hlen hS htx hWr hbel hwk
                    go_wp2_with fail
                    have hbS : Below wr.heap.size wr wr.drew := Below.drew (Below.refl _ _)
                    have st0 := trivial
                    go_region_held3 (fun w' => w'.cell? ⟨w.heap.size, 0, none⟩ = some (.int .u8 t.k) ∧ w'.cell? ⟨w.heap.size, 1, none⟩ = some (.int .i64 t.n) ∧ w'.cell? ⟨w.heap.size, 2, none⟩ = some (.int .i64 t.v) ∧ w'.cell? ⟨w.heap.size, 3, none⟩ = some (.int .u8 t.c) ∧ w'.cell? ⟨w.heap.size, 4, none⟩ = some (.slice A m cp))
                      (first | (go_keep; done) | exact ⟨(hbS.cell (p := ⟨w.heap.size, 0, none⟩) lt1).trans a0, (hbS.cell (p := ⟨w.heap.size, 1, none⟩) lt1).trans a1, (hbS.cell (p := ⟨w.heap.size, 2, none⟩) lt1).trans a2, (hbS.cell (p := ⟨w.heap.size, 3, none⟩) lt1).trans a3, (hbS.cell (p := ⟨w.heap.size, 4, none⟩) lt1).trans a4⟩)
                      ((first
                        | (go_at_call 11; clear st0; have st1 := trivial; refine (tyText_s HS.out Hg1.out.1 A m cp A4 n4 c4 _ (Bt.out.2.fresh hbS) (((HWD.out.below HWr.out).more HWr.out.size).below hbS |>.more hbS.size) ((Ht.out.below HWr.out).below hbS) Hlen.out).mono ?_; rintro e wx ⟨rfl, hbx⟩; replace hbS := hbS.trans (hbx.mono hbS.size); clear hbx)
                        | (go_at_call 40; clear st1; have st2 := trivial; refine (Htx.out _ (Bt.out.2.fresh hbS) (((HWD.out.below HWr.out).more HWr.out.size).below hbS |>.more hbS.size)).mono ?_; rintro e wx ⟨rfl, hbx⟩; replace hbS := hbS.trans (hbx.mono hbS.size); clear hbx)
                        | (go_at_call 10; clear st2; have st3 := trivial; refine (worksTy_any _ ((Ht.out.below HWr.out).below hbS)).mono ?_; rintro e wx ⟨rfl, hbx⟩; replace hbS := hbS.trans (hbx.mono hbS.size); clear hbx)))
                    all_goals
                      go_wp2_with fail
                      go_ret
                      exact ⟨rfl, HWr.out.trans (hbS.mono HWr.out.size)⟩
/-! ### the row's step -/
namespace tyPuts
set_option maxRecDepth 100000 in
theorem reads (os : Os) {H : Type} (enc : TypeId × Value → H) : ∃ places, DataW.whole enc Tryd.prog ((World.doorLaid Tryd.prog 400 os).forCall (fun _ _ => 0) ⟨#[], #[.agg #[.int .u8 0, .int .i64 0, .int .i64 0, .int .u8 0, .slice none 0 0], .slice none 0 0, .slice none 0 0, .slice none 0 0], []⟩).memory Tryd.f8.params.toList Rows.tyPutsSpec.vars false (#[.agg #[.int .u8 0, .int .i64 0, .int .i64 0, .int .u8 0, .slice none 0 0], .slice none 0 0, .slice none 0 0, .slice none 0 0] : Array Value).toList 8 = some ([.agg [.lit (.int .u8 0), .lit (.int .i64 0), .agg [.lit (.int .i64 0), .lit (.int .u8 0)], .nil], .nil, .nil, .nil], [], places) :=
  ⟨[], by kernel_rfl⟩
set_option maxRecDepth 100000 in
theorem lifted (os : Os) (started : os.Started) (H : Type) (enc : TypeId × Value → H) (F : Stop.Interp) :
    ReturnsInHanded {} Tryd.checked os 8 .any ((Rows.OpenSpec.upto Rows.tyPutsSpec).preRow enc Tryd.prog Tryd.f8 Rows.tyPutsUptoRow.domain false Rows.tyPutsUptoRow.laid) (((Rows.OpenSpec.upto Rows.tyPutsSpec).at F).post enc Tryd.prog Tryd.f8 false true false false) := by
  obtain ⟨places, hx⟩ := reads os enc
  refine returnsInHanded_of_row (C := Tryd.checked) (s := Rows.OpenSpec.upto Rows.tyPutsSpec) own started (by kernel_rfl) Tryd.func8
    (witness_row_at (enc := enc) (C := Tryd.checked) false (World.doorLaid Tryd.prog 400 os) #[.agg #[.int .u8 0, .int .i64 0, .int .i64 0, .int .u8 0, .slice none 0 0], .slice none 0 0, .slice none 0 0, .slice none 0 0] rfl (by kernel_rfl) (by kernel_rfl) (by kernel_rfl)
      (OpenSpec.preRow_of_cond 8 hx (by kernel_rfl) (fun k hk => by cases hk; kernel_rfl) (by kernel_rfl) (door_met os _))) ?_
  intro W base args ds gs before hval0 hW _ hcond _ hL _ _
  have hk0 := of_decide_eq_true (hcond _ rfl)
  have hval : ∀ (j : Nat) t v, Tryd.f8.params[j]? = some t → args[j]? = some v → Value.okWide Tryd.prog W .any base t v := hval0
  have hW' := hW
  obtain ⟨p, q, hA0, hV, rfl, hfz, hnd⟩ := hW
  have hA : DataW.TrodAll enc Tryd.prog W 0 (fun _ => true) true Tryd.f8.params.toList args.toList ds p := hA0
  rw [Tryd.params8] at hA hval
  obtain ⟨v0, vs0, d0, ds0, p0, q0, hargs, rfl, rfl, h0, r_0⟩ := trodAll_cons hA
  obtain ⟨v1, vs1, d1, ds1, p1, q1, rfl, rfl, rfl, h1, r_1⟩ := trodAll_cons r_0
  obtain ⟨v2, vs2, d2, ds2, p2, q2, rfl, rfl, rfl, h2, r_2⟩ := trodAll_cons r_1
  obtain ⟨v3, vs3, d3, ds3, p3, q3, rfl, rfl, rfl, h3, r_3⟩ := trodAll_cons r_2
  obtain ⟨rfl, rfl, rfl⟩ := trodAll_nil r_3
  obtain rfl : args = #[v0, v1, v2, v3] := by cases args; simp_all
  obtain ⟨rfl, rfl⟩ := trodVars_none hV
  have hk : Rows.uptoBulkAll [d0, d1, d2, d3] ≤ 1048576 := hk0
  have w0 := rd_ty (hval 0 27 v0 rfl rfl) h0
  have w1 := rd_tys (hval 1 25 v1 rfl rfl) h1
  have w2 := rd_mus (hval 2 41 v2 rfl rfl) h2
  have w3 := rd_nm (hval 3 33 v3 rfl rfl) h3
  refine (walk_tyPuts (w := W) (tab_of_laid hL) hk v0 w0 v1 w1 v2 w2 v3 w3).mono fun e W' ⟨he, bel⟩ => ?_
  subst he
  exact ⟨_, rfl, law_post laidOut (by kernel_rfl) rfl rfl Tryd.underlying4 hW' rfl rfl rfl bel⟩
theorem over : Rows.TyPutsUptoSaid :=
  OpenClaim.holds_of_cond 8 Tryd.f8 rfl rfl rfl rfl rfl rfl rfl ⟨rfl, rfl, rfl, rfl, rfl⟩ rfl rfl rfl rfl rfl (by kernel_rfl) Tryd.func8 (by kernel_rfl)
    (of_decide_eq_true (by kernel_rfl)) (by unfold Func.isWrapper; first | (rw [if_pos (by decide +kernel)]; kernel_rfl) | (rw [if_neg (by decide +kernel)]; exact ⟨rfl, rfl⟩))
    (fun os started H enc _ F => by rw [OpenClaim.pre_eq_preRow]; exact lifted os started H enc F)
theorem card : Rows.TyPutsUptoCardSaid :=
  Claim7.holds_tied_plain_at .later [] _ _ _ _ over (fun _ h => by cases h) (by kernel_rfl) (fun _ h => by cases h) tyPutsUpto_row_tie rfl ⟨rfl, rfl⟩ (by kernel_rfl) rfl
    (fun f fn hf hfn => by
      obtain rfl : f = 8 := Option.some.inj ((show Tryd.prog.funcNamed "usufruct/usufructlaw06.TyPuts" = some 8 by kernel_rfl).symm.trans hf) |>.symm
      obtain rfl : fn = Tryd.f8 := (Option.some.inj (Tryd.func8.symm.trans hfn)).symm
      exact ⟨by kernel_rfl, fun j t ht => by
        rw [Tryd.params8] at ht
        have hm : t ∈ [27, 25, 41, 33] := by simpa using Array.mem_of_getElem? ht
        have hall : ([27, 25, 41, 33].all fun u => !Tryd.prog.wantsStandIn u) = true := by kernel_rfl
        exact (show Tryd.prog.wantsStandIn t = false by simpa using List.all_eq_true.1 hall t hm)⟩)
    (by kernel_rfl)
/-- the statement -/
theorem proved : Rows.TyPutsUptoCardSaid := card
#print axioms proved
end tyPuts
end Go.Proofs.YtidamlkekgnhgaaDoor
