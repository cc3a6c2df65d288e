/- TyPutPut holds: what is put behind what was put is put of what was put. Conditions: the arguments are of bulk at most 1048576; the variables that the row lists are laid as the program's text lays them. -/
import Derived.Test.YtidamlkekgnhgaaDoorTWc
import Derived.Test.YtidamlkekgnhgaaDoorLawE
import Derived.Test.YtidamlkekgnhgaaDoorRowH
import Derived.Deep.DeepHandedRow
namespace Go.Proofs.YtidamlkekgnhgaaDoor
set_option linter.unusedVariables false
set_option linter.unusedSimpArgs false
open Go.ChangeShapes Go.WideShapes Go.ChangeAt Go.RowKit

set_option maxRecDepth 100000 in
set_option maxHeartbeats 8000000 in
theorem walk_tyPutPut {H : Type} {d0 d1 d2 d3 d4 : DataW H} {w : World} (ht : Tab w) (hk : Rows.uptoBulkAll [d0, d1, d2, d3, d4] ≤ 1048576) (v0 : Value) (h0 : TyB w v0 d0) (v1 : Value) (h1 : TysB w v1 d1) (v2 : Value) (h2 : TysB w v2 d2) (v3 : Value) (h3 : MusB w v3 d3) (v4 : Value) (h4 : MusB w v4 d4) :
    Calls Tryd.prog 6 #[v0, v1, v2, v3, v4] w fun e w' => e = .returned (.bool true) ∧ Below w.heap.size w w' := by
  obtain ⟨t, A, m, cp, rfl, ha, hna, _⟩ := h0
  obtain ⟨A1, n1, c1, types, rfl, hts, hnt⟩ := h1
  obtain ⟨A2, n2, c2, other, rfl, hot, hno⟩ := h2
  obtain ⟨A3, n3, c3, mults, rfl, hms, hnm, _⟩ := h3
  obtain ⟨A4, n4, c4, more, rfl, hmo, hnmo, _⟩ := h4
  simp only [Rows.uptoBulkAll] at hk
  have hn : nodes t ≤ 1048576 := by omega
  have hnts : ∀ u ∈ types, nodes u ≤ 1048576 := fun u hu => by have := nodes_mem hu; omega
  have hnos : ∀ u ∈ other, nodes u ≤ 1048576 := fun u hu => by have := nodes_mem hu; omega
  have hlt1 : n1 ≤ 1048576 := by
    have h1 := hts.len
    have h2 : types.length ≤ nodes.nodesL types := by
      clear h1 hnt hnts hts
      induction types with
      | nil => simp
      | cons x l ih => rw [List.length_cons, nodes.nodesL, nodes_eq x]; omega
    omega
  have hlt2 : n2 ≤ 1048576 := by
    have h1 := hot.len
    have h2 : other.length ≤ nodes.nodesL other := by
      clear h1 hno hnos hot
      induction other with
      | nil => simp
      | cons x l ih => rw [List.length_cons, nodes.nodesL, nodes_eq x]; omega
    omega
  have hlt3 : n3 ≤ 1048576 := by omega
  have hlt4 : n4 ≤ 1048576 := by omega
  clear hk hna hnt hno hnm hnmo
  obtain ⟨W, hP⟩ := pps_new t A m cp A1 n1 c1 A3 n3 c3 w ha
  obtain ⟨r1, hr1⟩ : ∃ r, greatB [t] = r := ⟨_, rfl⟩
  obtain ⟨r2, hr2⟩ : ∃ r, greatB types = r := ⟨_, rfl⟩
  obtain ⟨r3, hr3⟩ : ∃ r, greatB other = r := ⟨_, rfl⟩
  obtain ⟨xa, hxa⟩ : ∃ x, mayTE t = x := ⟨_, rfl⟩
  have Hg := Lib.hid (great_at hr1 _ _ _ W hP.row)
  have Hr2 := Lib.hid hr2
  have Hr3 := Lib.hid hr3
  have Heq := Lib.hid hP.eq
  have HB := Lib.hid hP.bel
  have BT0 := Lib.hid hP.bt
  have B1 := Lib.hid hP.b1
  have B2 := Lib.hid hP.b2
  have HTS := Lib.hid hts
  have HOT := Lib.hid hot
  have HMS := Lib.hid hms
  have HMO := Lib.hid hmo
  have Ht := Lib.hid ht
  have Hxa := Lib.hid hxa
  have Hn := Lib.hid hn
  have Hv1 : Hid ((varsT t).length ≤ 1099511627776) := Lib.hid (by have := @vars_len t; have := allV_le t; omega)
  have Hv2 : Hid ((multsT t).length ≤ 1099511627776) := Lib.hid (by have := @mults_len t; have := allM_le t; omega)
  have Hnts := Lib.hid hnts
  have Hnos := Lib.hid hnos
  have hsz : W.heap.size = w.heap.size + 1 + 1 + 1 + 1 := hP.size
  clear hP ht ha hr1 hr2 hr3 hxa hn hnts hnos hts hot hms hmo
  go_enter Tryd.func6, Tryd.ntmps6
  go_wp2_with fail
  rw [Heq.out]
  refine Hg.out.mono ?_; rintro e w1 ⟨rfl, hb1⟩
  replace HB := Lib.hid (HB.out.trans (hb1.mono HB.out.size))
  replace BT0 := Lib.hid (BT0.out.fresh hb1)
  replace B1 := Lib.hid (B1.out.below hb1 B1.out.lt)
  replace B2 := Lib.hid (B2.out.below hb1 B2.out.lt)
  clear hb1 Hg
  cases r1 with
  | true =>
    have hw := HB.out
    go_wp2_with fail
    refine (worksTy_any w1 (Ht.out.below hw)).mono ?_; rintro e w9 ⟨rfl, hb9⟩
    go_wp2_with fail
    go_ret
    exact ⟨rfl, hw.trans (hb9.mono hw.size)⟩
  | false =>
  have y0 := B1.out.cell 0
  go_wp2_with fail
  refine (great_at Hr2.out A1 n1 c1 w1 ((HTS.out.below HB.out).more HB.out.size)).mono ?_; rintro e w2 ⟨rfl, hb2⟩
  replace HB := Lib.hid (HB.out.trans (hb2.mono HB.out.size))
  replace BT0 := Lib.hid (BT0.out.fresh hb2)
  replace B1 := Lib.hid (B1.out.below hb2 B1.out.lt)
  replace B2 := Lib.hid (B2.out.below hb2 B2.out.lt)
  clear hb2 y0
  cases r2 with
  | true =>
    have hw := HB.out
    go_wp2_with fail
    refine (worksTy_any w2 (Ht.out.below hw)).mono ?_; rintro e w9 ⟨rfl, hb9⟩
    go_wp2_with fail
    go_ret
    exact ⟨rfl, hw.trans (hb9.mono hw.size)⟩
  | false =>
  go_wp2_with fail
  refine (great_at Hr3.out A2 n2 c2 w2 ((HOT.out.below HB.out).more HB.out.size)).mono ?_; rintro e w3 ⟨rfl, hb3⟩
  replace HB := Lib.hid (HB.out.trans (hb3.mono HB.out.size))
  replace BT0 := Lib.hid (BT0.out.fresh hb3)
  replace B1 := Lib.hid (B1.out.below hb3 B1.out.lt)
  replace B2 := Lib.hid (B2.out.below hb3 B2.out.lt)
  clear hb3
  cases r3 with
  | true =>
    have hw := HB.out
    go_wp2_with fail
    refine (worksTy_any w3 (Ht.out.below hw)).mono ?_; rintro e w9 ⟨rfl, hb9⟩
    go_wp2_with fail
    go_ret
    exact ⟨rfl, hw.trans (hb9.mono hw.size)⟩
  | false =>
  have y0 := B2.out.cell 0
  by_cases hbig : (n3 : Int) + n4 > 1000
  · have db : decide ((n3 : Int) + n4 > 1000) = true := by simpa using hbig
    have hw := HB.out
    clear hbig
    go_wp2_with fail
    refine (worksTy_any w3 (Ht.out.below hw)).mono ?_; rintro e w9 ⟨rfl, hb9⟩
    go_wp2_with fail
    go_ret
    exact ⟨rfl, hw.trans (hb9.mono hw.size)⟩
  have db : decide ((n3 : Int) + n4 > 1000) = false := by simpa using hbig
  have hsm : n3 + n4 ≤ 1000 := by omega
  clear hbig
  obtain ⟨a0, a1, a2, a3, a4⟩ := BT0.out.five
  go_wp2_with fail
  refine (vars_any t A m cp w3 BT0.out.2 Hv1.out Hv2.out).mono ?_; rintro e w4 ⟨A5, n5, c5, A6, n6, c6, rfl, ho5, ho6, hne, hb4⟩
  replace HB := Lib.hid (HB.out.trans (hb4.mono HB.out.size))
  replace BT0 := Lib.hid (BT0.out.fresh hb4)
  replace B1 := Lib.hid (B1.out.below hb4 B1.out.lt)
  replace B2 := Lib.hid (B2.out.below hb4 B2.out.lt)
  clear a0 a1 a2 a3 a4 y0 db
  have R5 := Lib.hid (RdI.of_own ho5)
  have R6 := Lib.hid (RdI.of_own ho6)
  clear ho5 ho6 hne hb4
  obtain ⟨a0, a1, a2, a3, a4⟩ := BT0.out.five
  go_wp2_with fail
  refine (tyMay_at Hxa.out A m cp w4 BT0.out.2).mono ?_; rintro e w5 ⟨rfl, hb5⟩
  replace HB := Lib.hid (HB.out.trans (hb5.mono HB.out.size))
  replace BT0 := Lib.hid (BT0.out.fresh hb5)
  replace B1 := Lib.hid (B1.out.below hb5 B1.out.lt)
  replace B2 := Lib.hid (B2.out.below hb5 B2.out.lt)
  replace R5 := Lib.hid (RdI.fresh R5.out hb5)
  replace R6 := Lib.hid (RdI.fresh R6.out hb5)
  clear hb5 a0 a1 a2 a3 a4
  by_cases hx0 : xa = 0
  case neg =>
    have d0 : (xa != 0) = true := by simp [hx0]
    have hw := HB.out
    go_wp2_with fail
    refine (worksTy_any w5 (Ht.out.below hw)).mono ?_; rintro e w9 ⟨rfl, hb9⟩
    go_wp2_with fail
    go_ret
    exact ⟨rfl, hw.trans (hb9.mono hw.size)⟩
  have d0 : (xa != 0) = false := by simp [hx0]
  have Hf := Lib.hid ((fit_iff Hn.out).1 (Hxa.out.trans hx0))
  clear hx0
  obtain ⟨rv, hrv⟩ : ∃ r, (varsT t).any (fun x => decide (x ≥ n1)) = r := ⟨_, rfl⟩
  obtain ⟨rm, hrm⟩ : ∃ r, (multsT t).any (fun x => decide (x ≥ n3)) = r := ⟨_, rfl⟩
  have Hrv := Lib.hid hrv
  have Hrm := Lib.hid hrm
  have Hcv := Lib.hid (containsIV (fun x => decide (x ≥ n1)) (w.heap.size + 1) A5 n5 c5 (varsT t) w5 _ R5.out (fun x _ => pp1_any x (w.heap.size + 1) n1 c1 A1 w5 (B1.out.cell 0) (by omega)) rv hrv)
  have Hcm := Lib.hid (containsIM (fun x => decide (x ≥ n3)) (w.heap.size + 1 + 1) A6 n6 c6 (multsT t) w5 _ R6.out (fun x _ => pp2_any x (w.heap.size + 1 + 1) n3 c3 A3 w5 (B2.out.cell 0) (by omega)) rm hrm)
  clear hrv hrm
  go_wp2_with fail
  refine Hcv.out.mono ?_; rintro e w6 ⟨rfl, rfl⟩
  cases rv with
  | true =>
    have hw := HB.out
    go_wp2_with fail
    refine (worksTy_any w6 (Ht.out.below hw)).mono ?_; rintro e w9 ⟨rfl, hb9⟩
    go_wp2_with fail
    go_ret
    exact ⟨rfl, hw.trans (hb9.mono hw.size)⟩
  | false =>
  go_wp2_with fail
  refine Hcm.out.mono ?_; rintro e w7 ⟨rfl, rfl⟩
  cases rm with
  | true =>
    have hw := HB.out
    go_wp2_with fail
    refine (worksTy_any w7 (Ht.out.below hw)).mono ?_; rintro e w9 ⟨rfl, hb9⟩
    go_wp2_with fail
    go_ret
    exact ⟨rfl, hw.trans (hb9.mono hw.size)⟩
  | false =>
  obtain ⟨a0, a1, a2, a3, a4⟩ := BT0.out.five
  have y1 := B1.out.cell 0
  have y2 := B2.out.cell 0
  obtain ⟨x, hx⟩ : ∃ x, putT t types mults = x := ⟨_, rfl⟩
  obtain ⟨ex, hex⟩ : ∃ x, putE t types mults = x := ⟨_, rfl⟩
  obtain ⟨y, hy⟩ : ∃ y, putT x other more = y := ⟨_, rfl⟩
  obtain ⟨fy, hfy⟩ : ∃ y, putE x other more = y := ⟨_, rfl⟩
  have Hx := Lib.hid hx
  have Hex := Lib.hid hex
  have Hy := Lib.hid hy
  have Hfy := Lib.hid hfy
  clear hx hex hy hfy Hcv Hcm
  go_wp2_with fail
  refine (put_u Hx.out Hex.out A m cp A1 n1 c1 A3 n3 c3 w7 BT0.out.2 ((HTS.out.below HB.out).more HB.out.size) ((HMS.out.below HB.out).more HB.out.size) (by omega)).mono ?_; rintro e w8 ⟨X, mx, cx, rfl, hX, hb8⟩
  have hbx := below_box (w := w8) (Obj.cells #[.int .u8 x.k, .int .i64 x.n, .int .i64 x.v, .int .u8 x.c, .slice X mx cx] 27)
  have hbX := BT.new hX
  have hb9 := hb8.trans (hbx.mono hb8.size)
  replace HB := Lib.hid (HB.out.trans (hb9.mono HB.out.size))
  replace BT0 := Lib.hid (BT0.out.fresh hb9)
  replace B1 := Lib.hid (B1.out.below hb9 B1.out.lt)
  replace B2 := Lib.hid (B2.out.below hb9 B2.out.lt)
  replace R5 := Lib.hid (RdI.fresh R5.out hb9)
  obtain ⟨w9, hw9⟩ : ∃ W, w8.alloc (Obj.cells #[.int .u8 x.k, .int .i64 x.n, .int .i64 x.v, .int .u8 x.c, .slice X mx cx] 27) = W := ⟨_, rfl⟩
  obtain ⟨b0, b1, b2, b3, b4⟩ := hbX.five
  rw [hw9] at hbX HB BT0 B1 B2 R5
  have hq := put_u Hy.out Hfy.out X mx cx A2 n2 c2 A4 n4 c4 w9 hbX.2 ((HOT.out.below HB.out).more HB.out.size) ((HMO.out.below HB.out).more HB.out.size) (by omega)
  have Hq := Lib.hid hq
  have Hw9 := Lib.hid hw9
  clear hX hb8 hbx hb9 hbX hw9 hq a0 a1 a2 a3 a4 y1 y2
  go_wp2_with fail
  rw [Hw9.out]
  refine Hq.out.mono ?_; rintro e w10 ⟨Y, my, cy, rfl, hY, hb10⟩
  have hbx := below_box (w := w10) (Obj.cells #[.int .u8 y.k, .int .i64 y.n, .int .i64 y.v, .int .u8 y.c, .slice Y my cy] 27)
  have hbY := BT.new hY
  have hb11 := hb10.trans (hbx.mono hb10.size)
  replace HB := Lib.hid (HB.out.trans (hb11.mono HB.out.size))
  replace BT0 := Lib.hid (BT0.out.fresh hb11)
  replace B1 := Lib.hid (B1.out.below hb11 B1.out.lt)
  replace B2 := Lib.hid (B2.out.below hb11 B2.out.lt)
  replace R5 := Lib.hid (RdI.fresh R5.out hb11)
  obtain ⟨w11, hw11⟩ : ∃ W, w10.alloc (Obj.cells #[.int .u8 y.k, .int .i64 y.n, .int .i64 y.v, .int .u8 y.c, .slice Y my cy] 27) = W := ⟨_, rfl⟩
  rw [hw11] at hbY HB BT0 B1 B2 R5
  have BY := Lib.hid hbY
  have Hw11 := Lib.hid hw11
  clear hY hb10 hbx hb11 hbY hw11 Hq b0 b1 b2 b3 b4 Hw9
  by_cases hex0 : ex = 0
  case neg =>
    have d1 : (ex != 0) = true := by simp [hex0]
    have hw := HB.out
    clear hex0
    go_wp2_with fail
    rw [Hw11.out]
    go_wp2_with fail
    refine (worksTy_any w11 (Ht.out.below hw)).mono ?_; rintro e w9 ⟨rfl, hb9⟩
    go_wp2_with fail
    go_ret
    exact ⟨rfl, hw.trans (hb9.mono hw.size)⟩
  by_cases hfy0 : fy = 0
  case neg =>
    have d1 : (ex != 0) = false := by simp [hex0]
    have d2 : (fy != 0) = true := by simp [hfy0]
    have hw := HB.out
    clear hex0 hfy0
    go_wp2_with fail
    rw [Hw11.out]
    go_wp2_with fail
    refine (worksTy_any w11 (Ht.out.below hw)).mono ?_; rintro e w9 ⟨rfl, hb9⟩
    go_wp2_with fail
    go_ret
    exact ⟨rfl, hw.trans (hb9.mono hw.size)⟩
  have d1 : (ex != 0) = false := by simp [hex0]
  have d2 : (fy != 0) = false := by simp [hfy0]
  have hvv : ∀ n ∈ allV t, n < types.length := fun n hn => by
    have h1 := List.any_eq_false.1 Hrv.out n (mem_vars.2 hn)
    have h2 := HTS.out.len
    simp at h1
    omega
  have hvm : ∀ v ∈ allM t, v < mults.length := fun v hv => by
    have h1 := List.any_eq_false.1 Hrm.out v (mem_mults.2 hv)
    have h2 := HMS.out.len
    simp at h1
    omega
  have hpp := put_put Hn.out Hnts.out Hnos.out hvv hvm (Hex.out.trans hex0) (by rw [Hx.out]; exact Hfy.out.trans hfy0)
  rw [Hx.out, Hy.out] at hpp
  have HPP := Lib.hid hpp
  have HF3 := Lib.hid ((putE_iff Hn.out Hnts.out).1 (Hex.out.trans hex0))
  have HFm := Lib.hid ((putE_iff (types := other) (ms := more) (t := x) (by have := (put_fit Hn.out Hnts.out (Hex.out.trans hex0)).2; rw [Hx.out] at this; omega) Hnos.out).1 (Hfy.out.trans hfy0))
  clear hvv hvm hpp hex0 hfy0
  have y1 := B1.out.cell 0
  rw [← Hw11.out] at y1
  have lent := HTS.out.len
  have lenm := HMS.out.len
  have leno := HOT.out.len
  have lenmo := HMO.out.len
  obtain ⟨i0, hi0, hz0, hz1, hz2⟩ := info_parts typeInfo
  go_wp2_with fail
  rw [Hw11.out]
  clear y1
  go_loopg [17, 88] n1 (fun gh v i wr => ∃ (k : Nat) (A7 : Option Addr) (c7 : Nat), k ≤ n1 ∧ gh = n1 - k ∧ i = .int .i64 k ∧ v = .slice A7 k c7 ∧ OwnC wr w11.heap.size 27 5 (fun _ => False) (.slice A7 k c7) k (((putBoth types other more).take k).flatMap encT) ∧ Below w11.heap.size w11 wr)
  case atStart => exact ⟨0, none, 0, Nat.zero_le _, rfl, rfl, rfl, OwnC.nil, Below.refl _ _⟩
  case round =>
    obtain ⟨k, A7, c7, hk, rfl, rfl, rfl, ho, hbel⟩ := hrel
    have hWr := HB.out.trans (hbel.mono HB.out.size)
    by_cases hkn : k < n1
    · have d3 : decide (k < n1) = true := by simpa using hkn
      have hk' : k < types.length := by omega
      obtain ⟨b, off, rfl, hb, hc⟩ := (HTS.out.below hWr).at_ (by omega)
      obtain ⟨e0, e1, e2, e3, Au, mu, cu, e4, hu⟩ := tyAt_iff.1 (hc k hk')
      have hsub := HPP.out.1
      have hpb : (putBoth types other more)[k]? = some (if putE types[k] other more = 0 then putT types[k] other more else types[k]) := by
        unfold putBoth
        rw [List.getElem?_map, List.getElem?_eq_getElem hk']; rfl
      have hkb : k < (putBoth types other more).length := by unfold putBoth; rw [List.length_map]; exact hk'
      have hgt : types[k]? = some types[k] := List.getElem?_eq_getElem hk'
      obtain ⟨u, huk⟩ : ∃ u, types[k] = u := ⟨_, rfl⟩
      rw [huk] at e0 e1 e2 e3 hu hpb hgt
      have hst : ((putBoth types other more).take (k + 1)).flatMap encT = ((putBoth types other more).take k).flatMap encT ++ encT (if putE u other more = 0 then putT u other more else u) := by
        rw [List.take_succ_eq_append_getElem hkb, List.flatMap_append]
        have : (putBoth types other more)[k] = if putE u other more = 0 then putT u other more else u := by
          rw [List.getElem?_eq_getElem hkb] at hpb
          injection hpb
        rw [this]; simp
      obtain ⟨ev, hev⟩ : ∃ x, putE u other more = x := ⟨_, rfl⟩
      obtain ⟨pv, hpv⟩ : ∃ x, putT u other more = x := ⟨_, rfl⟩
      have hcont : ev ≠ 0 → (varsT t).contains (k : Int) = false := fun h => by
        rw [Bool.eq_false_iff]
        intro h2
        exact h (by rw [← hev]; exact hsub k (mem_vars.1 (List.contains_iff_mem.1 h2)) u (by simpa using hgt))
      rw [hev, hpv] at hst
      obtain ⟨W1, hW1⟩ : ∃ W1, wr.alloc (Obj.cells #[.int .u8 u.k, .int .i64 u.n, .int .i64 u.v, .int .u8 u.c, .slice Au mu cu] 27) = W1 := ⟨_, rfl⟩
      have hbx := below_box (w := wr) (Obj.cells #[.int .u8 u.k, .int .i64 u.n, .int .i64 u.v, .int .u8 u.c, .slice Au mu cu] 27)
      have hbU := BT.new (w := wr) (t := u) (hu.more hWr.size)
      rw [hW1] at hbx hbU
      have hq := put_from (b0 := W1) (W := W1) (Below.refl _ _) hpv hev hbU.2 (((HOT.out.below hWr).more hWr.size).fresh hbx) (((HMO.out.below hWr).more hWr.size).fresh hbx) (by omega)
      have Hq := Lib.hid hq
      have HW1 := Lib.hid hW1
      have Hst := Lib.hid hst
      have Ho := Lib.hid ho
      have Hu := Lib.hid (TysV.in_ hu)
      have HbU := Lib.hid hbU
      have Hbx := Lib.hid hbx
      have Hbel := Lib.hid hbel
      have Hcont := Lib.hid hcont
      have k1 : (0 : Int) ≤ (k : Int) := by omega
      have k2 : (k : Int) < n1 := by omega
      clear hc hu hsub hpb hgt hst hev hpv hcont hW1 hbx hbU hq ho hbel huk
      go_wp2_with fail
      rw [HW1.out]
      refine Hq.out.mono ?_; rintro e w2 ⟨Av, mv, cv, rfl, hv, _, hb2⟩
      have hr2 := Hbx.out.trans (hb2.mono Hbx.out.size)
      have hs1 := Hbx.out.size
      have hs2 := hb2.size
      by_cases hev0 : ev = 0
      · have d4 : (ev != 0) = false := by simp [hev0]
        have hb3 := hr2.trans ((below_box (w := w2) (Obj.cells #[.int .u8 pv.k, .int .i64 pv.n, .int .i64 pv.v, .int .u8 pv.c, .slice Av mv cv] 27)).mono hr2.size)
        have HoW := Lib.hid (Ho.out.beyond hb3)
        have HbW := Lib.hid (Hbel.out.trans (hb3.mono Hbel.out.size))
        have HcV : Hid (CelsV (w2.alloc (Obj.cells #[.int .u8 pv.k, .int .i64 pv.n, .int .i64 pv.v, .int .u8 pv.c, .slice Av mv cv] 27)) (fun b => b < (w2.alloc (Obj.cells #[.int .u8 pv.k, .int .i64 pv.n, .int .i64 pv.v, .int .u8 pv.c, .slice Av mv cv] 27)).heap.size ∧ some b ≠ (Value.slice A7 k c7).ownBlock ∧ ¬ False) (encT pv) [.int .u8 pv.k, .int .i64 pv.n, .int .i64 pv.v, .int .u8 pv.c, .slice Av mv cv]) := Lib.hid (tyC (hv.keep (fun q hq => by
          refine ⟨by rw [World.size_alloc]; omega, fun e => ?_, fun h => h⟩
          have := (Ho.out.lt q e.symm).2
          omega) fun p hp => World.cell?_alloc_lt w2 _ p hp.2))
        have HstA : Hid (((putBoth types other more).take (k + 1)).flatMap encT = ((putBoth types other more).take k).flatMap encT ++ encT pv) := Lib.hid (by rw [Hst.out, if_pos hev0])
        clear hv hb2 hr2 hs1 hs2 hb3 hev0 Hq HW1 e0 e1 e2 e3 e4
        go_wp2_with (at_builtin; go_must (refine wpList_append_cel w11 (w2.alloc (Obj.cells #[.int .u8 pv.k, .int .i64 pv.n, .int .i64 pv.v, .int .u8 pv.c, .slice Av mv cv] 27)) rfl (.tmp 106) (.tmp 108) 25 rfl w11.heap.size 27 i0 _ 5 56 Tryd.underlying25 hi0 hz0 hz1 hz2 rfl (by omega) (fun _ => False) (.slice A7 k c7) k _ rfl [.int .u8 pv.k, .int .i64 pv.n, .int .i64 pv.v, .int .u8 pv.c, .slice Av mv cv] (encT pv) rfl (by intro u hu; simp at hu; rcases hu with rfl | rfl | rfl | rfl | rfl <;> rfl) (by rw [World.size_alloc]; rfl) HoW.out HcV.out (by unfold maxLen; omega) (by omega) HbW.out (Nat.le_refl _) HbW.out.size ?_); intro A8 c8 w8 ho8 hbel8 hg8 hz8 _)
        go_roundg (n1 - (k + 1))
        case measure => omega
        case rel => exact ⟨k + 1, A8, c8, by omega, rfl, by go_num, rfl, by rw [HstA.out]; exact ho8, hbel8⟩
      · have d4 : (ev != 0) = true := by simp [hev0]
        have hb3 := hr2.trans ((below_box (w := w2) (Obj.cells #[.int .u8 u.k, .int .i64 u.n, .int .i64 u.v, .int .u8 u.c, .slice Au mu cu] 27)).mono hr2.size)
        have hb4 := hr2.trans ((below_box (w := w2) (Obj.cells #[.int .u8 pv.k, .int .i64 pv.n, .int .i64 pv.v, .int .u8 pv.c, .slice Av mv cv] 27)).mono hr2.size)
        have HoW := Lib.hid (Ho.out.beyond hb3)
        have HbW := Lib.hid (Hbel.out.trans (hb3.mono Hbel.out.size))
        have hrx := HbW.out
        have Hct := Lib.hid (containsI_any A5 n5 c5 (varsT t) k (w2.alloc (Obj.cells #[.int .u8 pv.k, .int .i64 pv.n, .int .i64 pv.v, .int .u8 pv.c, .slice Av mv cv] 27)) _ ((R5.out.fresh Hbel.out).fresh hb4) false (Hcont.out hev0))
        have hU2 := (HbU.out.fresh hb2).fresh (below_box (w := w2) (Obj.cells #[.int .u8 pv.k, .int .i64 pv.n, .int .i64 pv.v, .int .u8 pv.c, .slice Av mv cv] 27))
        obtain ⟨y0, y1, y2, y3, y4⟩ := hU2.five
        have hsw : w.heap.size ≤ wr.heap.size := hWr.size
        have HcV : Hid (CelsV (w2.alloc (Obj.cells #[.int .u8 u.k, .int .i64 u.n, .int .i64 u.v, .int .u8 u.c, .slice Au mu cu] 27)) (fun b => b < (w2.alloc (Obj.cells #[.int .u8 u.k, .int .i64 u.n, .int .i64 u.v, .int .u8 u.c, .slice Au mu cu] 27)).heap.size ∧ some b ≠ (Value.slice A7 k c7).ownBlock ∧ ¬ False) (encT u) [.int .u8 u.k, .int .i64 u.n, .int .i64 u.v, .int .u8 u.c, .slice Au mu cu]) := Lib.hid (tyC (Hu.out.keep (fun q hq => by
          have hsb := HB.out.size
          refine ⟨by rw [World.size_alloc]; omega, fun e => ?_, fun h => h⟩
          have := (Ho.out.lt q e.symm).1
          omega) fun p hp => (World.cell?_alloc_lt w2 _ p (by omega)).trans (hr2.cell (by omega))))
        have HstA : Hid (((putBoth types other more).take (k + 1)).flatMap encT = ((putBoth types other more).take k).flatMap encT ++ encT u) := Lib.hid (by rw [Hst.out, if_neg hev0])
        clear hv hb2 hr2 hs1 hs2 hb3 hb4 hev0 Hq HW1 e0 e1 e2 e3 e4 hU2 hrx hsw
        go_wp2_with fail
        refine Hct.out.mono ?_; rintro e w3 ⟨rfl, rfl⟩
        go_wp2_with (at_builtin; go_must (refine wpList_append_cel w11 (w2.alloc (Obj.cells #[.int .u8 u.k, .int .i64 u.n, .int .i64 u.v, .int .u8 u.c, .slice Au mu cu] 27)) rfl (.tmp 106) (.tmp 108) 25 rfl w11.heap.size 27 i0 _ 5 56 Tryd.underlying25 hi0 hz0 hz1 hz2 rfl (by omega) (fun _ => False) (.slice A7 k c7) k _ rfl [.int .u8 u.k, .int .i64 u.n, .int .i64 u.v, .int .u8 u.c, .slice Au mu cu] (encT u) rfl (by intro u hu; simp at hu; rcases hu with rfl | rfl | rfl | rfl | rfl <;> rfl) (by rw [World.size_alloc]; rfl) HoW.out HcV.out (by unfold maxLen; omega) (by omega) HbW.out (Nat.le_refl _) HbW.out.size ?_); intro A8 c8 w8 ho8 hbel8 hg8 hz8 _)
        go_roundg (n1 - (k + 1))
        case measure => omega
        case rel => exact ⟨k + 1, A8, c8, by omega, rfl, by go_num, rfl, by rw [HstA.out]; exact ho8, hbel8⟩
    · have d3 : decide (k < n1) = false := by simpa using hkn
      obtain rfl : k = n1 := by omega
      have hlb : (putBoth types other more).length = k := by unfold putBoth; rw [List.length_map]; exact lent
      rw [List.take_of_length_le (by omega)] at ho
      replace HB := Lib.hid (HB.out.trans (hbel.mono HB.out.size))
      replace BT0 := Lib.hid (BT0.out.fresh hbel)
      replace B1 := Lib.hid (B1.out.below hbel B1.out.lt)
      replace B2 := Lib.hid (B2.out.below hbel B2.out.lt)
      have BY2 := Lib.hid (BY.out.fresh hbel)
      have HT7 := Lib.hid ho.tys
      clear ho hbel hWr hlb R5
      have y2 := B2.out.cell 0
      obtain ⟨w12, hw12⟩ : ∃ w12, w12 = wr := ⟨_, rfl⟩
      subst hw12
      go_wp2_with fail
      refine (cloneMu_any A3 n3 c3 mults w12 ((HMS.out.below HB.out).more HB.out.size) (by omega)).mono ?_; rintro e w13 ⟨A8, c8, rfl, ho8, hb13⟩
      clear y2
      have Ho8 := Lib.hid ho8
      have Hb13 := Lib.hid hb13
      clear ho8 hb13
      go_wp2_with fail
      go_loopg [115] n3 (fun gh i wr => ∃ (j : Nat), j ≤ n3 ∧ gh = n3 - j ∧ i = .int .i64 j ∧ wr.ownsRow w12.heap.size 24 2 (.slice A8 n3 c8) n3 (muC ((putAll mults more).take j ++ mults.drop j)) ∧ Below w12.heap.size w12 wr)
      case atStart => exact ⟨0, Nat.zero_le _, rfl, rfl, by simpa using Ho8.out, Hb13.out⟩
      case round =>
        obtain ⟨j, hj, rfl, rfl, ho9, hbel⟩ := hrel
        have hlp : (putAll mults more).length = mults.length := by unfold putAll; rw [List.length_map]
        by_cases hjn : j < n3
        · have d3 : decide (j < n3) = true := by simpa using hjn
          have hj' : j < mults.length := by omega
          have hjp : j < (putAll mults more).length := by omega
          obtain ⟨hjl, hjg⟩ := upd_get (P := putAll mults more) hj' hlp
          have hgt := muC_get hjl
          rw [hjg] at hgt
          have hpj := putAll_get (more := more) hj' hjp
          have hib := HF3.out.2.2.1 mults[j] (List.getElem_mem hj')
          have hus := upd_set hj' hlp hjp
          have hum := upd_same hj' hlp hjp
          obtain ⟨g, rfl⟩ : ∃ g, A8 = some ⟨g, 0, none⟩ := by
            rcases ho9.2 with ⟨_, hn0⟩ | ⟨g, cap, cur, e0, _⟩
            · omega
            · injection e0 with e1 e2 e3
              exact ⟨g, e1⟩
          have hset := fun (q : Int × Int) => mu_store (g := g) (k := j) (q := q) (ms := (putAll mults more).take j ++ mults.drop j) (w := wr.alloc (Obj.cells #[.int .i64 mults[j].1, .int .u8 mults[j].2] 24)) (base := w12.heap.size) (n := n3) (c := c8)
          have hgl := ho9.lt g rfl
          have e0 := (ho9.cellAt (j * 2) (by omega)).trans hgt.1
          have e1 := (ho9.cellAt (j * 2 + 1) (by omega)).trans hgt.2
          obtain ⟨q, hq⟩ : ∃ q, mults[j] = q := ⟨_, rfl⟩
          rw [hq] at e0 e1 hpj hib hset hum
          have k1 : (0 : Int) ≤ (j : Int) := by omega
          have k2 : (j : Int) < n3 := by omega
          by_cases hc0 : q.2 = 0
          · have dc : (q.2 == 0) = true := by simp [hc0]
            have hq1 : 0 ≤ q.1 := by
              rcases isB_cases hib with ⟨_, h⟩ | ⟨h, _⟩ <;> omega
            by_cases hv0 : q.1 < n4
            · have dv : decide (q.1 < n4) = true := by simpa using hv0
              have hi : q.1.toNat < more.length := by omega
              have hHM := HMO.out.below (HB.out.trans (hbel.mono HB.out.size))
              obtain ⟨b, off, rfl, hbk, hcc⟩ := hHM.2.2.2 (by omega)
              have hcq := hcc q.1.toNat hi
              have hswr : w.heap.size ≤ wr.heap.size := (HB.out.trans (hbel.mono HB.out.size)).size
              have hpp : (if q.2 = 0 ∧ q.1 < (more.length : Int) then more.getD q.1.toNat (0, 0) else q) = more[q.1.toNat] := by
                rw [if_pos ⟨hc0, by omega⟩, List.getD_eq_getElem?_getD, List.getElem?_eq_getElem hi]; rfl
              rw [hpp] at hpj
              obtain ⟨p, hp⟩ : ∃ p, more[q.1.toNat] = p := ⟨_, rfl⟩
              rw [hp] at hpj hcq
              have x0 := (World.cell?_alloc_lt wr (Obj.cells #[.int .i64 q.1, .int .u8 q.2] 24) ⟨b, off + q.1.toNat * 2, none⟩ (by show b < wr.heap.size; omega)).trans hcq.1
              have x1 := (World.cell?_alloc_lt wr (Obj.cells #[.int .i64 q.1, .int .u8 q.2] 24) ⟨b, off + q.1.toNat * 2 + 1, none⟩ (by show b < wr.heap.size; omega)).trans hcq.2
              have ho10 := ho9.alloc (Obj.cells #[.int .i64 q.1, .int .u8 q.2] 24)
              have s0 := (World.cell?_alloc_lt wr (Obj.cells #[.int .i64 q.1, .int .u8 q.2] 24) ⟨g, j * 2, none⟩ hgl.2).trans e0
              have s1 := (World.cell?_alloc_lt wr (Obj.cells #[.int .i64 q.1, .int .u8 q.2] 24) ⟨g, j * 2 + 1, none⟩ hgl.2).trans e1
              have f0 := ho10.frozenAt (j * 2)
              have f1 := ho10.frozenAt (j * 2 + 1)
              have hown := hset p ho10 hjl
              rw [← hpj, hus, hpj] at hown
              have Hown := Lib.hid hown
              have Hbel9 := Lib.hid (((hbel.alloc hbel.size (Obj.cells #[.int .i64 q.1, .int .u8 q.2] 24)).setCell (p := ⟨g, j * 2, none⟩) hgl.1 (.int .i64 p.1)).setCell (p := ⟨g, j * 2 + 1, none⟩) hgl.1 (.int .u8 p.2))
              clear hum hus hset hgt hpj hjg hjl hib ho9 hbel hq hlp hgl hHM hcc hcq hpp hp ho10 hown hc0 hv0
              go_wp2_with fail
              go_roundg (n3 - (j + 1))
              case measure => omega
              case rel => exact ⟨j + 1, by omega, rfl, by go_num, Hown.out, Hbel9.out⟩
            · have dv : decide (q.1 < n4) = false := by simpa using hv0
              rw [if_neg (fun h => hv0 (by omega))] at hpj
              have Hown := Lib.hid (show (wr.alloc (Obj.cells #[.int .i64 q.1, .int .u8 q.2] 24)).ownsRow w12.heap.size 24 2 (.slice (some ⟨g, 0, none⟩) n3 c8) n3 (muC ((putAll mults more).take (j + 1) ++ mults.drop (j + 1))) from by rw [← hum hpj]; exact ho9.alloc _)
              have Hbel9 := Lib.hid (hbel.alloc hbel.size (Obj.cells #[.int .i64 q.1, .int .u8 q.2] 24))
              clear hum hus hset hgt hpj hjg hjl hib ho9 hbel hq hlp hgl hv0 hc0
              go_wp2_with fail
              go_roundg (n3 - (j + 1))
              case measure => omega
              case rel => exact ⟨j + 1, by omega, rfl, by go_num, Hown.out, Hbel9.out⟩
          · have dc : (q.2 == 0) = false := by simp [hc0]
            rw [if_neg (fun h => hc0 h.1)] at hpj
            have Hown := Lib.hid (show (wr.alloc (Obj.cells #[.int .i64 q.1, .int .u8 q.2] 24)).ownsRow w12.heap.size 24 2 (.slice (some ⟨g, 0, none⟩) n3 c8) n3 (muC ((putAll mults more).take (j + 1) ++ mults.drop (j + 1))) from by rw [← hum hpj]; exact ho9.alloc _)
            have Hbel9 := Lib.hid (hbel.alloc hbel.size (Obj.cells #[.int .i64 q.1, .int .u8 q.2] 24))
            clear hum hus hset hgt hpj hjg hjl hib ho9 hbel hq hlp hgl hc0
            go_wp2_with fail
            go_roundg (n3 - (j + 1))
            case measure => omega
            case rel => exact ⟨j + 1, by omega, rfl, by go_num, Hown.out, Hbel9.out⟩
        · have d3 : decide (j < n3) = false := by simpa using hjn
          obtain rfl : j = n3 := by omega
          rw [List.take_of_length_le (by omega), List.drop_of_length_le (by omega), List.append_nil] at ho9
          replace HB := Lib.hid (HB.out.trans (hbel.mono HB.out.size))
          replace BT0 := Lib.hid (BT0.out.fresh hbel)
          replace B1 := Lib.hid (B1.out.below hbel B1.out.lt)
          replace B2 := Lib.hid (B2.out.below hbel B2.out.lt)
          have BY3 := Lib.hid (BY2.out.fresh hbel)
          have HT8 := Lib.hid (HT7.out.fresh hbel)
          have HA8 := Lib.hid (musV_own ho9)
          obtain ⟨a0, a1, a2, a3, a4⟩ := BT0.out.five
          have hq := put_u (u := y) (by rw [HPP.out.2.2]) HPP.out.2.1 A m cp A7 k c7 A8 j c8 wr BT0.out.2 HT8.out HA8.out (by omega)
          have Hq := Lib.hid hq
          clear ho9 hbel hq BY2
          go_wp2_with fail
          refine Hq.out.mono ?_; rintro e w14 ⟨Z, mz, cz, rfl, hZ, hb14⟩
          have hbx := below_box (w := w14) (Obj.cells #[.int .u8 y.k, .int .i64 y.n, .int .i64 y.v, .int .u8 y.c, .slice Z mz cz] 27)
          have hbZ := BT.new hZ
          have hb15 := hb14.trans (hbx.mono hb14.size)
          have hbY := BY3.out.fresh hb15
          obtain ⟨b0, b1, b2, b3, b4⟩ := hbY.five
          obtain ⟨z0, z1, z2, z3, z4⟩ := hbZ.five
          have HwZ := Lib.hid (HB.out.trans (hb15.mono HB.out.size))
          have hsm := same_at (a := y) (b := y) ((sameT_iff y y).2 rfl) Y my cy Z mz cz _ hbY.2 hbZ.2
          have Hsm := Lib.hid hsm
          clear hbx hbZ hb15 hb14 hZ hbY hsm Hq a0 a1 a2 a3 a4
          go_wp2_with fail
          refine Hsm.out.mono ?_; rintro e w15 ⟨rfl, hb15⟩
          have hw15 := HwZ.out.trans (hb15.mono HwZ.out.size)
          clear hb15 b0 b1 b2 b3 b4 z0 z1 z2 z3 z4
          go_wp2_with fail
          refine (worksTy_any w15 (Ht.out.below hw15)).mono ?_; rintro e w9 ⟨rfl, hb9⟩
          go_wp2_with fail
          go_ret
          exact ⟨rfl, hw15.trans (hb9.mono hw15.size)⟩

/-! ### the row's step -/
namespace tyPutPut
set_option maxRecDepth 100000 in
theorem reads (os : Os) {H : Type} (enc : TypeId × Value → H) : ∃ places, DataW.whole enc Tryd.prog ((World.doorLaid Tryd.prog 400 os).forCall (fun _ _ => 0) ⟨#[], #[.agg #[.int .u8 0, .int .i64 0, .int .i64 0, .int .u8 0, .slice none 0 0], .slice none 0 0, .slice none 0 0, .slice none 0 0, .slice none 0 0], []⟩).memory Tryd.f6.params.toList Rows.tyPutPutSpec.vars false (#[.agg #[.int .u8 0, .int .i64 0, .int .i64 0, .int .u8 0, .slice none 0 0], .slice none 0 0, .slice none 0 0, .slice none 0 0, .slice none 0 0] : Array Value).toList 8 = some ([.agg [.lit (.int .u8 0), .lit (.int .i64 0), .agg [.lit (.int .i64 0), .lit (.int .u8 0)], .nil], .nil, .nil, .nil, .nil], [], places) :=
  ⟨[], by kernel_rfl⟩
set_option maxRecDepth 100000 in
theorem lifted (os : Os) (started : os.Started) (H : Type) (enc : TypeId × Value → H) (F : Stop.Interp) :
    ReturnsInHanded {} Tryd.checked os 6 .any ((Rows.OpenSpec.upto Rows.tyPutPutSpec).preRow enc Tryd.prog Tryd.f6 Rows.tyPutPutUptoRow.domain false Rows.tyPutPutUptoRow.laid) (((Rows.OpenSpec.upto Rows.tyPutPutSpec).at F).post enc Tryd.prog Tryd.f6 false true false false) := by
  obtain ⟨places, hx⟩ := reads os enc
  refine returnsInHanded_of_row (C := Tryd.checked) (s := Rows.OpenSpec.upto Rows.tyPutPutSpec) own started (by kernel_rfl) Tryd.func6
    (witness_row_at (enc := enc) (C := Tryd.checked) false (World.doorLaid Tryd.prog 400 os) #[.agg #[.int .u8 0, .int .i64 0, .int .i64 0, .int .u8 0, .slice none 0 0], .slice none 0 0, .slice none 0 0, .slice none 0 0, .slice none 0 0] rfl (by kernel_rfl) (by kernel_rfl) (by kernel_rfl)
      (OpenSpec.preRow_of_cond 8 hx (by kernel_rfl) (fun k hk => by cases hk; kernel_rfl) (by kernel_rfl) (door_met os _))) ?_
  intro W base args ds gs before hval0 hW _ hcond _ hL _ _
  have hk0 := of_decide_eq_true (hcond _ rfl)
  have hval : ∀ (j : Nat) t v, Tryd.f6.params[j]? = some t → args[j]? = some v → Value.okWide Tryd.prog W .any base t v := hval0
  have hW' := hW
  obtain ⟨p, q, hA0, hV, rfl, hfz, hnd⟩ := hW
  have hA : DataW.TrodAll enc Tryd.prog W 0 (fun _ => true) true Tryd.f6.params.toList args.toList ds p := hA0
  rw [Tryd.params6] at hA hval
  obtain ⟨v0, vs0, d0, ds0, p0, q0, hargs, rfl, rfl, h0, r_0⟩ := trodAll_cons hA
  obtain ⟨v1, vs1, d1, ds1, p1, q1, rfl, rfl, rfl, h1, r_1⟩ := trodAll_cons r_0
  obtain ⟨v2, vs2, d2, ds2, p2, q2, rfl, rfl, rfl, h2, r_2⟩ := trodAll_cons r_1
  obtain ⟨v3, vs3, d3, ds3, p3, q3, rfl, rfl, rfl, h3, r_3⟩ := trodAll_cons r_2
  obtain ⟨v4, vs4, d4, ds4, p4, q4, rfl, rfl, rfl, h4, r_4⟩ := trodAll_cons r_3
  obtain ⟨rfl, rfl, rfl⟩ := trodAll_nil r_4
  obtain rfl : args = #[v0, v1, v2, v3, v4] := by cases args; simp_all
  obtain ⟨rfl, rfl⟩ := trodVars_none hV
  have hk : Rows.uptoBulkAll [d0, d1, d2, d3, d4] ≤ 1048576 := hk0
  have w0 := rd_ty (hval 0 27 v0 rfl rfl) h0
  have w1 := rd_tys (hval 1 25 v1 rfl rfl) h1
  have w2 := rd_tys (hval 2 25 v2 rfl rfl) h2
  have w3 := rd_mus (hval 3 41 v3 rfl rfl) h3
  have w4 := rd_mus (hval 4 41 v4 rfl rfl) h4
  refine (walk_tyPutPut (w := W) (tab_of_laid hL) hk v0 w0 v1 w1 v2 w2 v3 w3 v4 w4).mono fun e W' ⟨he, bel⟩ => ?_
  subst he
  exact ⟨_, rfl, law_post laidOut (by kernel_rfl) rfl rfl Tryd.underlying4 hW' rfl rfl rfl bel⟩
theorem over : Rows.TyPutPutUptoSaid :=
  OpenClaim.holds_of_cond 6 Tryd.f6 rfl rfl rfl rfl rfl rfl rfl ⟨rfl, rfl, rfl, rfl, rfl⟩ rfl rfl rfl rfl rfl (by kernel_rfl) Tryd.func6 (by kernel_rfl)
    (of_decide_eq_true (by kernel_rfl)) (by unfold Func.isWrapper; first | (rw [if_pos (by decide +kernel)]; kernel_rfl) | (rw [if_neg (by decide +kernel)]; exact ⟨rfl, rfl⟩))
    (fun os started H enc _ F => by rw [OpenClaim.pre_eq_preRow]; exact lifted os started H enc F)
theorem card : Rows.TyPutPutUptoCardSaid :=
  Claim7.holds_tied_plain_at .later [] _ _ _ _ over (fun _ h => by cases h) (by kernel_rfl) (fun _ h => by cases h) tyPutPutUpto_row_tie rfl ⟨rfl, rfl⟩ (by kernel_rfl) rfl
    (fun f fn hf hfn => by
      obtain rfl : f = 6 := Option.some.inj ((show Tryd.prog.funcNamed "usufruct/usufructlaw06.TyPutPut" = some 6 by kernel_rfl).symm.trans hf) |>.symm
      obtain rfl : fn = Tryd.f6 := (Option.some.inj (Tryd.func6.symm.trans hfn)).symm
      exact ⟨by kernel_rfl, fun j t ht => by
        rw [Tryd.params6] at ht
        have hm : t ∈ [27, 25, 41] := by simpa using Array.mem_of_getElem? ht
        have hall : ([27, 25, 41].all fun u => !Tryd.prog.wantsStandIn u) = true := by kernel_rfl
        exact (show Tryd.prog.wantsStandIn t = false by simpa using List.all_eq_true.1 hall t hm)⟩)
    (by kernel_rfl)
/-- the statement -/
theorem proved : Rows.TyPutPutUptoCardSaid := card
#print axioms proved
end tyPutPut
end Go.Proofs.YtidamlkekgnhgaaDoor
