/- usufructlaw06.works, great. -/
import Derived.Test.YtidamlkekgnhgaaDoorTyZ
import Derived.Deep.RegionHeld3
namespace Go.Proofs.YtidamlkekgnhgaaDoor
set_option linter.unusedVariables false
set_option linter.unusedSimpArgs false
open Go.RowKit

def tInt : TyD := .mk 2 0 0 0 []
def wk0 : TyD := .mk 7 0 0 0 [plainV 0, plainV 1]
def wk1 : TyD := .mk 7 0 0 3 [tInt, plainV 1]
theorem wk_e : putE wk0 [tInt] [(0, 3)] = 0 := by decide +kernel
theorem wk_t : putT wk0 [tInt] [(0, 3)] = wk1 := by
  unfold putT
  rw [if_pos wk_e]
  rfl
theorem wk_may : mayT wk1 = true := by decide +kernel
theorem wk_text : txB ws2 wk1 = [73, 110, 116, 32, 45, 42, 62, 32, 97, 49] := by decide +kernel
theorem wk_size : sizeW wk1 = 3 := by decide +kernel
theorem tyText_at {t : TyD} {ws : List ByteArray} {x : List UInt8} (hx : txB ws t = x) (hm : mayT t = true) (A : Option Addr) (m cp : Nat) (An : Option Addr) (nn cn : Nat) (w : World) (hl : TysV w w.heap.size A m cp t.l) (hn : NmV w w.heap.size An nn cn ws) (ht : Tab w) (hsz : x.length ≤ 140737488355328) :
    Calls Tryd.prog 11 #[.agg #[.int .u8 t.k, .int .i64 t.n, .int .i64 t.v, .int .u8 t.c, .slice A m cp], .slice An nn cn] w fun e w' => e = .returned (.string ⟨x.toArray⟩) ∧ Below w.heap.size w w' := by
  subst hx
  exact tyText_any t hm ws A m cp An nn cn w hl hn ht hsz
theorem size_at {t : TyD} {s : Int} (hs : sizeW t = s) (A : Option Addr) (m cp : Nat) (w : World) (h : TysV w w.heap.size A m cp t.l) :
    Calls Tryd.prog 17 #[.agg #[.int .u8 t.k, .int .i64 t.n, .int .i64 t.v, .int .u8 t.c, .slice A m cp]] w fun e w' => e = .returned (.int .i64 s) ∧ Below w.heap.size w w' := by
  subst hs
  exact size_any t _ w ⟨A, m, cp, rfl, h⟩
theorem put_at {t : TyD} {types : List TyD} {ms : List (Int × Int)} {x : Int} {k n v c : Int} {l : List TyD} (ht : putT t types ms = .mk k n v c l) (hx : putE t types ms = x) (A : Option Addr) (m cp : Nat) (A1 : Option Addr) (n1 c1 : Nat) (A2 : Option Addr) (n2 c2 : Nat) (w : World) (hl : TysV w w.heap.size A m cp t.l) (hts : TysV w w.heap.size A1 n1 c1 types) (hms : MusV w w.heap.size A2 n2 c2 ms) (hn : n1 ≤ 1099511627776) :
    Calls Tryd.prog 27 #[.agg #[.int .u8 t.k, .int .i64 t.n, .int .i64 t.v, .int .u8 t.c, .slice A m cp], .slice A1 n1 c1, .slice A2 n2 c2] w fun e w' => ∃ A m cp, e = .returned (.tuple #[.agg #[.int .u8 k, .int .i64 n, .int .i64 v, .int .u8 c, .slice A m cp], .int .i64 x]) ∧ TysV w' w'.heap.size A m cp l ∧ Below w.heap.size w w' := by
  have h := tyPut_any t A m cp A1 n1 c1 types A2 n2 c2 ms w hl hts hms hn
  rw [ht, hx] at h
  refine h.mono ?_
  rintro e w' ⟨A', m', cp', rfl, h1, h2⟩
  exact ⟨A', m', cp', rfl, h1.lt fun b hb => hb.2, h2⟩
theorem mu1_new {W : World} {B g : Nat} {t : TypeId} {v c : Int} (h : Blk W g t #[.int .i64 v, .int .u8 c]) (hg : g < B) : MusV W B (some ⟨g, 0, none⟩) 1 1 [(v, c)] := by
  refine ⟨rfl, Nat.le_refl _, by unfold maxLen; omega, fun _ => ⟨g, 0, rfl, hg, fun i hi => ?_⟩⟩
  match i, hi with
  | 0, _ => exact ⟨h.cell 0, h.cell 1⟩

set_option maxRecDepth 100000 in
set_option maxHeartbeats 2000000 in
theorem worksTy_any (w : World) (ht : Tab w) :
    Calls Tryd.prog 10 #[] w fun e w' => e = .returned (.bool true) ∧ Below w.heap.size w w' := by
  have Ht := Lib.hid ht
  clear ht
  go_enter Tryd.func10, Tryd.ntmps10
  go_wp2_with fail
  refine (lawV_any 0 w).mono ?_; rintro e w1 ⟨A1, m1, p1, rfl, h1, hb1⟩
  go_wp2_with fail
  refine (lawV_any 1 w1).mono ?_; rintro e w2 ⟨A2, m2, p2, rfl, h2, hb2⟩
  have h1' := (h1.below hb2).more hb2.size
  have hw2 := hb1.trans (hb2.mono hb1.size)
  clear hb1 hb2 h1
  go_wp2_with fail
  refine (lawFun_any (plainV 0) (plainV 1) 0 0 A1 m1 p1 A2 m2 p2 w2 h1' h2).mono ?_; rintro e w3 ⟨A3, m3, p3, rfl, h3, hb3⟩
  have hw3 := hw2.trans (hb3.mono hw2.size)
  clear h1' h2 hb3 hw2
  go_wp2_with fail
  refine (lawOf_any 2 [] none 0 0 w3 TysV.nil).mono ?_; rintro e w4 ⟨A4, m4, p4, rfl, h4, hb4⟩
  have hw4 := hw3.trans (hb4.mono hw3.size)
  have h3' := (h3.below hb4).more hb4.size
  clear hb4 hw3 h3
  have hn5 := blk_new w4 #[.int .u8 2, .int .i64 0, .int .i64 0, .int .u8 0, .slice A4 m4 p4] 27
  have hb5 := below_box (w := w4) (Obj.cells #[.int .u8 2, .int .i64 0, .int .i64 0, .int .u8 0, .slice A4 m4 p4] 27)
  have hs5 : (w4.alloc (Obj.cells #[.int .u8 2, .int .i64 0, .int .i64 0, .int .u8 0, .slice A4 m4 p4] 27)).heap.size = w4.heap.size + 1 := by simp
  obtain ⟨w5, hw5⟩ : ∃ W, w4.alloc (Obj.cells #[.int .u8 2, .int .i64 0, .int .i64 0, .int .u8 0, .slice A4 m4 p4] 27) = W := ⟨_, rfl⟩
  rw [hw5] at hn5 hb5 hs5
  have hn6 := blk_new w5 #[.int .i64 0, .int .u8 3] 24
  have hb6 := below_box (w := w5) (Obj.cells #[.int .i64 0, .int .u8 3] 24)
  obtain ⟨w6, hw6⟩ : ∃ W, w5.alloc (Obj.cells #[.int .i64 0, .int .u8 3] 24) = W := ⟨_, rfl⟩
  rw [hw6] at hn6 hb6
  have hsz6 := hb6.size
  have hty : TysV w6 w6.heap.size (some ⟨w4.heap.size, 0, none⟩) 1 1 [tInt] := ty1_new (a := tInt) (hn5.below hb6 (by omega)) (by omega) ((((h4.below hb5).more hb5.size).below hb6).more hb6.size)
  have hmu : MusV w6 w6.heap.size (some ⟨w5.heap.size, 0, none⟩) 1 1 [(0, 3)] := mu1_new hn6 hn6.lt
  rw [hs5] at hmu
  have h3'' := (((h3'.below hb5).more hb5.size).below hb6).more hb6.size
  have hput := put_at (t := wk0) wk_t wk_e A3 m3 p3 _ 1 1 _ 1 1 w6 h3'' hty hmu (by omega)
  have hwa := hw4.trans ((hb5.trans (hb6.mono hb5.size)).mono hw4.size)
  have Hput := Lib.hid hput
  have Hw5 := Lib.hid hw5
  have Hw6 := Lib.hid hw6
  have Hwa := Lib.hid hwa
  clear hn5 hb5 hs5 hw5 hn6 hb6 hw6 hsz6 hty hmu h3'' h3' hput hwa hw4 h4
  go_wp2_with fail
  rw [Hw5.out, Hw6.out]
  refine Hput.out.mono ?_; rintro e w7 ⟨A7, m7, p7, rfl, h7, hb7⟩
  have hw7 := Hwa.out.trans (hb7.mono Hwa.out.size)
  have h7' : TysV w7 w7.heap.size A7 m7 p7 wk1.l := h7
  have hn8 := blk_new w7 #[.int .u8 7, .int .i64 0, .int .i64 0, .int .u8 3, .slice A7 m7 p7] 27
  have hb8 := below_box (w := w7) (Obj.cells #[.int .u8 7, .int .i64 0, .int .i64 0, .int .u8 3, .slice A7 m7 p7] 27)
  have H8 := Lib.hid ((h7'.below hb8).more hb8.size)
  have Hw8 := Lib.hid (hw7.trans (hb8.mono hw7.size))
  have Hn8 := Lib.hid hn8
  clear Hput h7 h7' hw7 hb7 hn8 hb8
  go_wp2_with fail
  generalize w7.alloc (Obj.cells #[.int .u8 7, .int .i64 0, .int .i64 0, .int .u8 3, .slice A7 m7 p7] 27) = W at H8 Hw8 Hn8 ⊢
  have g := Hn8.out.lt
  have t0 := Hn8.out.cell 0
  have t1 := Hn8.out.cell 1
  have t2 := Hn8.out.cell 2
  have t3 := Hn8.out.cell 3
  have t4 := Hn8.out.cell 4
  have hbS : Below W.heap.size W W.drew := Below.drew (Below.refl _ _)
  have st0 := trivial
  go_region_held3 (fun w' => w'.cell? ⟨w7.heap.size, 0, none⟩ = some (.int .u8 7) ∧ w'.cell? ⟨w7.heap.size, 1, none⟩ = some (.int .i64 0) ∧ w'.cell? ⟨w7.heap.size, 2, none⟩ = some (.int .i64 0) ∧ w'.cell? ⟨w7.heap.size, 3, none⟩ = some (.int .u8 3) ∧ w'.cell? ⟨w7.heap.size, 4, none⟩ = some (.slice A7 m7 p7))
    (first | go_keep | exact ⟨(hbS.cell (p := ⟨w7.heap.size, 0, none⟩) g).trans t0, (hbS.cell (p := ⟨w7.heap.size, 1, none⟩) g).trans t1, (hbS.cell (p := ⟨w7.heap.size, 2, none⟩) g).trans t2, (hbS.cell (p := ⟨w7.heap.size, 3, none⟩) g).trans t3, (hbS.cell (p := ⟨w7.heap.size, 4, none⟩) g).trans t4⟩)
    ((first
      | (go_at_call 14; clear st0; have st1 := trivial; refine (names_any _).mono ?_; rintro e wx ⟨A9, n9, c9, rfl, hn9, hbx⟩; replace hbS := hbS.trans (hbx.mono hbS.size); clear hbx)
      | (go_at_call 11; clear st1; have st2 := trivial; refine (tyText_at (t := wk1) wk_text wk_may A7 m7 p7 A9 n9 c9 _ ((H8.out.below hbS).more hbS.size) hn9 (Ht.out.below (Hw8.out.trans (hbS.mono Hw8.out.size))) (by decide)).mono ?_; rintro e wx ⟨rfl, hbx⟩; replace hbS := hbS.trans (hbx.mono hbS.size); clear hbx hn9)
      | (go_at_call 17; clear st2; have st3 := trivial; refine (size_at (t := wk1) wk_size A7 m7 p7 _ ((H8.out.below hbS).more hbS.size)).mono ?_; rintro e wx ⟨rfl, hbx⟩; replace hbS := hbS.trans (hbx.mono hbS.size); clear hbx)))
  go_wp2_with fail
  go_ret
  exact ⟨rfl, Hw8.out.trans (hbS.mono Hw8.out.size)⟩

def greatN (l : List TyD) : Int := l.foldl (fun n t => wrap64 (n + min (sizeW t) 5000)) 0
def greatB (l : List TyD) : Bool := decide (greatN l > 5000)
theorem greatN_snoc (l : List TyD) (t : TyD) : greatN (l ++ [t]) = wrap64 (greatN l + min (sizeW t) 5000) := by unfold greatN; rw [List.foldl_append]; rfl
set_option maxRecDepth 100000 in
set_option maxHeartbeats 1000000 in
theorem great_any (l : List TyD) (A : Option Addr) (m cp : Nat) (w : World) (hl : TysV w w.heap.size A m cp l) :
    Calls Tryd.prog 16 #[.slice A m cp] w fun e w' => e = .returned (.bool (greatB l)) ∧ Below w.heap.size w w' := by
  have hlen := hl.len
  have m63 : m ≤ 9223372036854775807 := Nat.le_trans hl.2.1 hl.2.2.1
  have HL := Lib.hid hl
  have hmn := @run_min2 Tryd.prog
  clear hl
  go_enter Tryd.func16, Tryd.ntmps16
  go_wp2_with fail
  go_loopg [3, 8] m (fun gh s i wr => ∃ k : Nat, k ≤ m ∧ gh = m - k ∧ i = .int .i64 k ∧ s = .int .i64 (greatN (l.take k)) ∧ Below w.heap.size w wr)
  case atStart => exact ⟨0, Nat.zero_le _, rfl, rfl, rfl, Below.refl _ _⟩
  case round =>
    obtain ⟨k, hk, rfl, rfl, rfl, hbel⟩ := hrel
    by_cases hkm : k < m
    · have d0 : decide (k < m) = true := by simpa using hkm
      have hk' : k < l.length := by omega
      obtain ⟨b, off, rfl, hb, hc⟩ := (HL.out.below hbel).at_ (by omega)
      obtain ⟨e0, e1, e2, e3, Ax, mx, cx, e4, hx⟩ := tyAt_iff.1 (hc k hk')
      have hst := greatN_snoc (l.take k) l[k]
      rw [← List.take_succ_eq_append_getElem hk'] at hst
      obtain ⟨x, hxk⟩ : ∃ x, l[k] = x := ⟨_, rfl⟩
      rw [hxk] at e0 e1 e2 e3 hx hst
      have hbA := hbel.alloc hbel.size (Obj.cells #[.int .u8 x.k, .int .i64 x.n, .int .i64 x.v, .int .u8 x.c, .slice Ax mx cx] 27)
      have hbB := below_box (w := wr) (Obj.cells #[.int .u8 x.k, .int .i64 x.n, .int .i64 x.v, .int .u8 x.c, .slice Ax mx cx] 27)
      have hq := refSize_any x (.agg #[.int .u8 x.k, .int .i64 x.n, .int .i64 x.v, .int .u8 x.c, .slice Ax mx cx]) _ ⟨Ax, mx, cx, rfl, ((hx.more hbel.size).below hbB).more hbB.size⟩
      obtain ⟨r, hr⟩ : ∃ r, sizeW x = r := ⟨_, rfl⟩
      obtain ⟨s, hs⟩ : ∃ s, greatN (l.take k) = s := ⟨_, rfl⟩
      rw [hr] at hq hst
      rw [hs] at hst ⊢
      have Hq := Lib.hid hq
      have Hst := Lib.hid hst
      have HbA := Lib.hid hbA
      have k1 : (0 : Int) ≤ (k : Int) := by omega
      have k2 : (k : Int) < m := by omega
      clear hc hx hxk hq hst hbA hbB hr hs hbel
      go_wp2_with fail
      refine Hq.out.mono ?_; rintro e w3 ⟨rfl, hb3⟩
      have Hb3 := Lib.hid (HbA.out.trans (hb3.mono HbA.out.size))
      clear hb3 Hq
      go_wp2_with fail
      go_roundg (m - (k + 1))
      case measure => omega
      case rel => exact ⟨k + 1, by omega, rfl, by go_num, by rw [Hst.out], Hb3.out⟩
    · have d0 : decide (k < m) = false := by simpa using hkm
      have HR : Hid (greatN (l.take k) = greatN l) := Lib.hid (by rw [List.take_of_length_le (by omega)])
      have Hb := Lib.hid hbel
      clear hbel
      rw [HR.out]
      obtain ⟨G, hG⟩ : ∃ G, greatN l = G := ⟨_, rfl⟩
      have HG : Hid (decide (G > 5000) = greatB l) := Lib.hid (by rw [← hG]; rfl)
      rw [hG]
      clear hG
      go_wp2_with fail
      go_ret
      exact ⟨ret_bool HG.out, Hb.out⟩
end Go.Proofs.YtidamlkekgnhgaaDoor
