/- ElimAgain holds for every input: the table of a told table's inequalities is that table, and with fewer variables kept it is a part of it. No conditions. -/
import Derived.Test.YthabkpkgocafoaaEaH
import Derived.Test.YthabkpkgocafoaaEaM
import Derived.Test.YthabkpkgocafoaaEaO
import Derived.Test.YthabkpkgocafoaaEaL
import Derived.Test.YthabkpkgocafoaaEaJ
namespace Go.Proofs.Ythabkpkgocafoaa
set_option linter.unusedVariables false
set_option linter.unusedSimpArgs false
open Go.ChangeShapes Go.WideShapes Go.ChangeAt Go.RowKit

theorem RdI.tail1 {k : IntKind} {w : World} {B b off n c : Nat} {us : List Int} (h : RdI k w B (some ⟨b, off, none⟩) n c us) (hn : 1 ≤ n) : RdI k w B (some ⟨b, off + 1, none⟩) (n - 1) (c - 1) (us.drop 1) := by
  obtain ⟨b', off', e, hb, hc⟩ := h.at_ (by omega)
  have hl := h.len
  injection e with e
  injection e with e1 e2
  subst e1; subst e2
  refine ⟨⟨by simp; omega, fun _ => ⟨b, off + 1, rfl, hb, fun j u hu => ?_⟩⟩, by have := h.2.1; omega, by have := h.2.2; omega⟩
  rw [List.getElem?_map, List.getElem?_drop] at hu
  have hj : 1 + j < us.length := by
    rcases Nat.lt_or_ge (1 + j) us.length with q | q
    · exact q
    · rw [List.getElem?_eq_none q] at hu; cases hu
  have := hc (1 + j) hj
  rw [List.getElem?_eq_getElem hj] at hu
  rw [Nat.add_assoc, this, ← hu]
  rfl
theorem natK_range_succ (k : Nat) : natK (List.range (k + 1)) = natK (List.range k) ++ [(k : Int)] := by unfold natK; rw [List.range_succ, List.map_append]; rfl
theorem RdI.box {k : IntKind} {w w' : World} {B B' n c bx : Nat} {t : TypeId} {A : Option Addr} {us : List Int} {A0 A1 A2 : Option Addr} {n0 n1 n2 c0 c1 c2 : Nat} (h : RdI k w B A n c us) (hk : Blk w bx t #[.slice A0 n0 c0, .slice A1 n1 c1, .slice A2 n2 c2]) (hw : ∀ b o, b ≠ bx → w'.cell? ⟨b, o, none⟩ = w.cell? ⟨b, o, none⟩) (hB : B ≤ B') : RdI k w' B' A n c us := by
  refine ⟨⟨h.1.1, fun hn => ?_⟩, h.2⟩
  obtain ⟨b, off, e, hb, hc⟩ := h.1.2 hn
  have hus : 0 < us.length := by rw [h.len]; exact hn
  have hne : b ≠ bx := fun e2 => by
    subst e2
    have h1 := hc 0 (.int k us[0]) (by simp [hus])
    rw [hk.cell] at h1
    have : ∀ j : Nat, (#[Value.slice A0 n0 c0, Value.slice A1 n1 c1, Value.slice A2 n2 c2] : Array Value)[j]? ≠ some (.int k us[0])
      | 0 => by simp
      | 1 => by simp
      | 2 => by simp
      | j + 3 => by simp
    exact this _ h1
  exact ⟨b, off, e, by omega, fun j u hu => (hw b (off + j) hne).trans (hc j u hu)⟩
theorem MssV.box {w w' : World} {B B' n c bx : Nat} {t : TypeId} {A : Option Addr} {ls : List (List Int)} {A0 A1 A2 : Option Addr} {n0 n1 n2 c0 c1 c2 : Nat} (h : MssV w B A n c ls) (hk : Blk w bx t #[.slice A0 n0 c0, .slice A1 n1 c1, .slice A2 n2 c2]) (hA : ∀ ad, A = some ad → bx < ad.block) (hw : ∀ b o, b ≠ bx → w'.cell? ⟨b, o, none⟩ = w.cell? ⟨b, o, none⟩) (hB : B ≤ B') : MssV w' B' A n c ls := by
  refine ⟨h.1, h.2.1, h.2.2.1, fun hn => ?_⟩
  obtain ⟨b, off, e, hb, hc⟩ := h.2.2.2 hn
  have hne : b ≠ bx := by have := hA _ e; have e2 : (⟨b, off, none⟩ : Addr).block = b := rfl; omega
  refine ⟨b, off, e, by omega, fun i hi => ?_⟩
  obtain ⟨A', c', h1, h2⟩ := hc i hi
  exact ⟨A', c', (hw b (off + i) hne).trans h1, h2.box hk hw hB⟩
set_option maxRecDepth 100000 in
set_option maxHeartbeats 4000000 in
theorem walkA_elimAgain (n : Int) (Al : Option Addr) (nl cl : Nat) (xs : List IneqD) (Ak : Option Addr) (nk ck : Nat) (keep : List Int) (w : World) (hx : IneqsV w w.heap.size Al nl cl xs) (hk : RdI .i64 w w.heap.size Ak nk ck keep) :
    Calls Try.prog 11 #[.int .i64 n, .slice Al nl cl, .slice Ak nk ck] w fun e w' => e = .returned (.bool true) ∧ Below w.heap.size w w' := by
  have hxl := hx.len
  have hkl := hk.len
  subst hkl
  have Hx := Lib.hid hx
  have Hk := Lib.hid hk
  clear hx hk
  cases hG : great5 n nl keep.length with
  | true =>
    have HG := Lib.hid hG
    clear hG
    go_enter Try.func11, Try.ntmps11
    go_wp2_with fail
    refine (great5_any true n Al nl cl Ak keep.length ck w HG.out).mono ?_; rintro e w1 ⟨rfl, rfl⟩
    have Hbw := Lib.hid (Below.refl w.heap.size w)
    go_wp2_with fail
    refine (works5_any w).mono ?_
    rintro e w8 ⟨rfl, hb8⟩
    have Hb8 := Lib.hid (Hbw.out.trans (hb8.mono Hbw.out.size))
    clear hb8
    go_wp2_with fail
    go_ret
    exact ⟨by first | rfl | decide | simp, Hb8.out⟩
  | false =>
    obtain ⟨hn30, hl60, hk6⟩ := great5_no hG
    have HG := Lib.hid hG
    clear hG
    go_enter Try.func11, Try.ntmps11
    go_wp2_with fail
    refine (great5_any false n Al nl cl Ak keep.length ck w HG.out).mono ?_; rintro e w1 ⟨rfl, rfl⟩
    go_wp2_with fail
    refine (project_any n Al nl cl xs Ak keep.length ck keep w Hx.out Hk.out).mono ?_
    rintro e w2 ⟨v, t, er, rfl, hv, hR, hb2⟩
    obtain ⟨A1, c1, A2, c2, A3, c3, rfl, hq1, hq2, hq3⟩ := hv
    have hT := blk_new w2 #[.slice A1 t.low.length c1, .slice A2 t.up.length c2, .slice A3 t.pair.length c3] 50
    have hbT := below_box (w := w2) (Obj.cells #[.slice A1 t.low.length c1, .slice A2 t.up.length c2, .slice A3 t.pair.length c3] 50)
    have hq1 := hq1.freshM hbT
    have hq2 := hq2.freshM hbT
    have hq3 := hq3.fresh hbT
    have hb3 := hb2.trans (hbT.mono hb2.size)
    obtain ⟨w3, hw3⟩ : ∃ x, w2.alloc (Obj.cells #[.slice A1 t.low.length c1, .slice A2 t.up.length c2, .slice A3 t.pair.length c3] 50) = x := ⟨_, rfl⟩
    rw [hw3] at hT hq1 hq2 hq3 hb3
    have Hw3 := Lib.hid hw3
    have Hb3 := Lib.hid hb3
    have Hq1 := Lib.hid hq1
    have Hq2 := Lib.hid hq2
    have Hq3 := Lib.hid hq3
    have HT3 := Lib.hid hT
    have HTV : Hid (∀ W, Below w3.heap.size w3 W → TabV W W.heap.size (.agg #[.slice A1 t.low.length c1, .slice A2 t.up.length c2, .slice A3 t.pair.length c3]) t) := Lib.hid fun W hW => ⟨_, _, _, _, _, _, rfl, Hq1.out.freshM hW, Hq2.out.freshM hW, Hq3.out.fresh hW⟩
    have HTB : Hid (∀ W, Below w3.heap.size w3 W → Blk W w2.heap.size 50 #[.slice A1 t.low.length c1, .slice A2 t.up.length c2, .slice A3 t.pair.length c3]) := Lib.hid fun W hW => HT3.out.below hW HT3.out.lt
    clear hT hbT hq1 hq2 hq3 hb2 hb3 hw3
    by_cases h0 : er = 0
    · subst h0
      obtain ⟨N, hN, htab⟩ := hR.table rfl
      subst hN
      have Htab := Lib.hid htab
      clear htab hR
      have x0 := (HTB.out w3 (Below.refl _ _)).cell 0
      have x1 := (HTB.out w3 (Below.refl _ _)).cell 1
      have x2 := (HTB.out w3 (Below.refl _ _)).cell 2
      simp only [List.getElem?_toArray, List.getElem?_cons_zero, List.getElem?_cons_succ] at x0 x1 x2
      rw [← Hw3.out] at x0 x1 x2
      go_wp2_with fail
      rw [Hw3.out]
      refine (ineqs5_any keep.length t _ w3 Htab.out.ok_ Htab.out.rng hk6 (HTV.out w3 (Below.refl _ _))).mono ?_
      rintro e w4 ⟨Ao, co, rfl, ho, hb4⟩
      have Hb34 := Lib.hid hb4
      have Hb4 := Lib.hid (Hb3.out.trans (hb4.mono Hb3.out.size))
      have Ho := Lib.hid ho
      have k63 : keep.length ≤ 9223372036854775807 := by omega
      obtain ⟨ol, hol⟩ : ∃ l, (ownE t keep.length).length = l := ⟨_, rfl⟩
      rw [hol] at ho ⊢
      have Ho := Lib.hid ho
      clear hb4 ho hol x0 x1 x2
      go_wp2_with fail
      go_loopg [10, 37] keep.length (fun gh s10 i wr => ∃ (k : Nat) (A : Option Addr) (c : Nat), k ≤ keep.length ∧ gh = keep.length - k ∧ s10 = .slice A k c ∧ i = .int .i64 (k : Nat) ∧ wr.ownsRow w4.heap.size 3 1 (.slice A k c) k ((natK (List.range k)).map (Value.int .i64)) ∧ Below w4.heap.size w4 wr)
      case atStart => exact ⟨0, none, 0, Nat.zero_le _, rfl, rfl, rfl, by simpa [natK] using World.ownsRow_nil _ _ _ _, Below.refl _ _⟩
      case round =>
        obtain ⟨k, A, c, hk, rfl, rfl, rfl, hown, hbel⟩ := hrel
        have Hrow := Lib.hid hown
        have Hbel := Lib.hid hbel
        clear hown hbel
        by_cases hkn : k < keep.length
        · have d0 : decide (k < keep.length) = true := by simpa using hkn
          have Hb9 := Lib.hid (Hbel.out.alloc Hbel.out.size (Obj.cells #[.int .i64 (k : Nat)] 3))
          obtain ⟨i0, hi0, hz0, hz1, hz2⟩ := info_parts intInfo
          go_wp2_with (at_builtin; refine wpList_append_rd _ rfl (.tmp 40) (.tmp 42) 23 rfl w4.heap.size 3 i0 _ 1 8 Try.underlying23 hi0 hz0 hz1 hz2 rfl (by omega) (.slice A k c) k ((natK (List.range k)).map (Value.int .i64)) rfl (Hrow.out.alloc _) (wr.heap.size + 1) (some ⟨wr.heap.size, 0, none⟩) 1 1 [.int .i64 (k : Nat)] rfl (rd_new1 _ _ _) (by intro x hx; simp at hx; subst hx; rfl) (by unfold maxLen; omega) (by omega) Hb9.out.size ?_; intro v7 w7 ho7 hg7 hat7; obtain ⟨A7, c7, rfl⟩ := ownsRow_form ho7)
          have hb7 := Hb9.out.grown hg7 Hb9.out.size (fun b' hb' => (ownsRow_lt (Hrow.out.alloc (Obj.cells #[.int .i64 (k : Nat)] 3)) hb').1)
          go_roundg (keep.length - (k + 1))
          case measure => omega
          case rel => exact ⟨k + 1, A7, c7, by omega, rfl, rfl, by simp, by rw [natK_range_succ, List.map_append]; exact ho7, hb7⟩
        · have d0 : decide (k < keep.length) = false := by simpa using hkn
          have hke : k = keep.length := by omega
          have hall := RdI.of_own Hrow.out
          have hall2 : RdI .i64 wr wr.heap.size A k c (natK (List.range keep.length)) := by rw [hke] at hall ⊢; exact hall
          have Hall := Lib.hid hall2
          have Hke := Lib.hid hke
          obtain ⟨w5, hw5⟩ : ∃ x, x = wr := ⟨_, rfl⟩
          subst hw5
          clear hall hall2 hke hk Hrow hkn
          go_wp2_with fail
          refine (project_any keep.length Ao ol co (ownE t keep.length) A k c (natK (List.range keep.length)) w5 ((Ho.out.below Hbel.out).more Hbel.out.size) Hall.out).mono ?_
          rintro e w6 ⟨v2, u, er2, rfl, hv2, hR2, hb6⟩
          obtain ⟨h20, hut⟩ := again_same Htab.out hk6 hR2
          subst h20
          subst hut
          obtain ⟨B1, e1, B2, e2, B3, e3, rfl, hu1, hu2, hu3⟩ := hv2
          have hT := blk_new w6 #[.slice B1 u.low.length e1, .slice B2 u.up.length e2, .slice B3 u.pair.length e3] 50
          have hbT := below_box (w := w6) (Obj.cells #[.slice B1 u.low.length e1, .slice B2 u.up.length e2, .slice B3 u.pair.length e3] 50)
          have hu := (show TabV w6 w6.heap.size (.agg #[.slice B1 u.low.length e1, .slice B2 u.up.length e2, .slice B3 u.pair.length e3]) u from ⟨_, _, _, _, _, _, rfl, hu1, hu2, hu3⟩).fresh hbT
          have hb7 := Hb34.out.trans ((Hbel.out.trans ((hb6.trans (hbT.mono hb6.size)).mono Hbel.out.size)).mono Hb34.out.size)
          obtain ⟨w7, hw7⟩ : ∃ x, w6.alloc (Obj.cells #[.slice B1 u.low.length e1, .slice B2 u.up.length e2, .slice B3 u.pair.length e3] 50) = x := ⟨_, rfl⟩
          rw [hw7] at hT hu hb7
          have Hw7 := Lib.hid hw7
          have Hu7 := Lib.hid hu
          have HT7 := Lib.hid hT
          have h36 := Lib.hid (show w3.heap.size ≤ w6.heap.size from Nat.le_trans Hb34.out.size (Nat.le_trans Hbel.out.size hb6.size))
          have Hb37 := Lib.hid hb7
          have Hb7 := Lib.hid (Hb3.out.trans (hb7.mono Hb3.out.size))
          have x0 := (HTB.out w7 hb7).cell 0
          have x1 := (HTB.out w7 hb7).cell 1
          have x2 := (HTB.out w7 hb7).cell 2
          have y0 := hT.cell 0
          have y1 := hT.cell 1
          have y2 := hT.cell 2
          simp only [List.getElem?_toArray, List.getElem?_cons_zero, List.getElem?_cons_succ] at x0 x1 x2 y0 y1 y2
          rw [← Hw7.out] at x0 x1 x2 y0 y1 y2
          clear hT hbT hu hb7 hw7 hu1 hu2 hu3 hR2 hb6
          go_wp2_with fail
          rw [Hw7.out]
          refine (tabSame_any (t := u) (u := u) (r := true) (by simp) _ _ w7 (HTV.out w7 Hb37.out) Hu7.out).mono ?_
          rintro e w9 ⟨rfl, hb9⟩
          have Hb79 := Lib.hid hb9
          have Hb9 := Lib.hid (Hb7.out.trans (hb9.mono Hb7.out.size))
          have Hb39 := Lib.hid (Hb37.out.trans (hb9.mono Hb37.out.size))
          have HT9 := Lib.hid (HT7.out.below hb9 HT7.out.lt)
          clear x0 x1 x2 y0 y1 y2 hb9 Hu7
          cases keep with
          | nil =>
            have Hbw := Hb9
            go_wp2_with fail
            refine (works5_any w9).mono ?_
            rintro e w8 ⟨rfl, hb8⟩
            have Hb8 := Lib.hid (Hbw.out.trans (hb8.mono Hbw.out.size))
            clear hb8
            go_wp2_with fail
            go_ret
            exact ⟨by first | rfl | decide | simp, Hb8.out⟩
          | cons z ks =>
            have d1 : ((ks.length : Int) + 1 == 0) = false := by simp; omega
            have Hs36 : Hid (w3.heap.size ≤ w6.heap.size) := Lib.hid (by have h1 := Hb37.out; have := HT7.out.lt; exact h36.out)
            obtain ⟨bk, ok, hAk, hbk, hck⟩ := Hk.out.at_ (by simp)
            subst hAk
            have hk9 := (Hk.out.below Hb9.out).more Hb9.out.size
            by_cases hc1 : ck = 1
            · subst hc1
              have hks : ks.length = 0 := by have h := hk9.2.1; rw [List.length_cons] at h; omega
              have Hkt : Hid (RdI .i64 w9 w9.heap.size (some ⟨bk, ok, none⟩) ks.length 0 ks) := Lib.hid ⟨⟨by simp, fun h => absurd h (by omega)⟩, by omega, Nat.zero_le _⟩
              clear hks hk9 hck
              go_wp2_with fail
              refine (project_anyF N Al nl cl xs (some ⟨bk, ok, none⟩) ks.length 0 ks w9 ((Hx.out.below Hb9.out).more Hb9.out.size) Hkt.out).mono ?_
              rintro e wA ⟨v3, u2, er3, rfl, hv3, hR3, hbA, hfr⟩
              obtain ⟨h30, hl1, hl2, hl3, hat⟩ := again_tail Htab.out hR3
              subst h30
              obtain ⟨C1, f1, C2, f2, C3, f3, hveq, hu1, hu2, hu3⟩ := hv3
              rw [hl1, hl2, hl3] at hveq
              rw [hl1] at hu1
              rw [hl2] at hu2
              rw [hl3] at hu3
              subst hveq
              have hC3 : ∀ ad, C3 = some ad → w6.heap.size < ad.block := fun ad ea => Nat.lt_of_lt_of_le HT9.out.lt (hfr _ _ _ _ _ rfl ad ea)
              have hTA := HT9.out.below hbA HT9.out.lt
              have y0 := hTA.cell 0
              have y1 := hTA.cell 1
              have y2 := hTA.cell 2
              simp only [List.getElem?_toArray, List.getElem?_cons_zero, List.getElem?_cons_succ] at y0 y1 y2
              have g0 := hTA.frozen 0
              have g1 := hTA.frozen 1
              have g2 := hTA.frozen 2
              have hbA9 := Hb39.out.trans (hbA.mono Hb39.out.size)
              have hs36 := Hs36.out
              have hb12 := ((hbA9.setCell (p := ⟨w6.heap.size, 0, none⟩) hs36 (.slice C1 ks.length f1)).setCell (p := ⟨w6.heap.size, 1, none⟩) hs36 (.slice C2 ks.length f2)).setCell (p := ⟨w6.heap.size, 2, none⟩) hs36 (.slice C3 ks.length f3)
              have hT12 := hTA.set3 (.slice C1 ks.length f1) (.slice C2 ks.length f2) (.slice C3 ks.length f3)
              have hw12 : ∀ b o, b ≠ w6.heap.size → (((wA.setCell ⟨w6.heap.size, 0, none⟩ (.slice C1 ks.length f1)).setCell ⟨w6.heap.size, 1, none⟩ (.slice C2 ks.length f2)).setCell ⟨w6.heap.size, 2, none⟩ (.slice C3 ks.length f3)).cell? ⟨b, o, none⟩ = wA.cell? ⟨b, o, none⟩ := fun b o hne => set3_other wA o hne _ _ _
              have hsz12 : (((wA.setCell ⟨w6.heap.size, 0, none⟩ (.slice C1 ks.length f1)).setCell ⟨w6.heap.size, 1, none⟩ (.slice C2 ks.length f2)).setCell ⟨w6.heap.size, 2, none⟩ (.slice C3 ks.length f3)).heap.size = wA.heap.size := by simp [World.setCell]
              have hu1 := hu1.box hTA hw12 (Nat.le_of_eq hsz12.symm)
              have hu2 := hu2.box hTA hw12 (Nat.le_of_eq hsz12.symm)
              have hu3 := hu3.box hTA hC3 hw12 (Nat.le_of_eq hsz12.symm)
              obtain ⟨w12, hww⟩ : ∃ x, ((wA.setCell ⟨w6.heap.size, 0, none⟩ (.slice C1 ks.length f1)).setCell ⟨w6.heap.size, 1, none⟩ (.slice C2 ks.length f2)).setCell ⟨w6.heap.size, 2, none⟩ (.slice C3 ks.length f3) = x := ⟨_, rfl⟩
              rw [hww] at hb12 hT12 hu1 hu2 hu3
              have Hww := Lib.hid hww
              have Hu1 := Lib.hid hu1
              have Hu2 := Lib.hid hu2
              have Hu3 := Lib.hid hu3
              have HT12 := Lib.hid hT12
              have Hb312 := Lib.hid hb12
              have Hb12 := Lib.hid (Hb3.out.trans (hb12.mono Hb3.out.size))
              have Hat := Lib.hid hat
              have Hl1 := Lib.hid hl1
              have Hl2 := Lib.hid hl2
              have Hl3 := Lib.hid hl3
              clear hR3 hbA hfr hl1 hl2 hl3 hat hu1 hu2 hu3 hC3 hTA hbA9 hs36 hb12 hT12 hw12 hsz12 hww
              go_upto_region 19 with fail
              rw [Hww.out]
              clear y0 y1 y2 g0 g1 g2
              have y0 := HT12.out.cell 0
              have y1 := HT12.out.cell 1
              have y2 := HT12.out.cell 2
              simp only [List.getElem?_toArray, List.getElem?_cons_zero, List.getElem?_cons_succ] at y0 y1 y2
              have ks63 : ks.length + 1 ≤ 9223372036854775807 := by have := hk6; simp at this; omega
              go_wp2_with fail
              clear y0 y1 y2
              go_loopg [100] ks.length (fun gh s100 wr => ∃ i : Nat, i ≤ ks.length ∧ gh = ks.length - i ∧ s100 = .int .i64 (i : Nat) ∧ Below w12.heap.size w12 wr)
              case atStart => exact ⟨0, Nat.zero_le _, rfl, rfl, Below.refl _ _⟩
              case round =>
                obtain ⟨i, hi, rfl, rfl, hbel⟩ := hrel
                by_cases hin : i < ks.length
                · have d5 : decide (i < ks.length) = true := by simpa using hin
                  have i1 : (0 : Int) ≤ (i : Int) := by omega
                  have i2 : (i : Int) < ks.length := by omega
                  have hok := Htab.out.ok_
                  have hll : u.low.length = ks.length + 1 := by have := hok.ll; simpa using this
                  have hul : u.up.length = ks.length + 1 := by have := hok.ul; simpa using this
                  have hpl : u.pair.length = ks.length + 1 := by have := hok.pl; simpa using this
                  have j1 : (i : Int) + 1 < u.low.length := by omega
                  have j2 : (i : Int) + 1 < u.up.length := by omega
                  have j3 : (i : Int) + 1 < u.pair.length := by omega
                  have i3 : (0 : Int) ≤ (i : Int) + 1 := by omega
                  have hwr : IntKind.i64.wrap ((i : Int) + 1) = (i : Int) + 1 := IntWalk.i64_in _ (by omega)
                  have htn : ((i : Int) + 1).toNat = i + 1 := by omega
                  obtain ⟨ha1, ha2, ha3⟩ := Hat.out i hin
                  have hiu : i < u2.low.length := by rw [Hl1.out]; exact hin
                  have hiv : i < u2.up.length := by rw [Hl2.out]; exact hin
                  have hiw : i < u2.pair.length := by rw [Hl3.out]; exact hin
                  have hiu' : i + 1 < u.low.length := by omega
                  have hiv' : i + 1 < u.up.length := by omega
                  have hiw' : i + 1 < u.pair.length := by omega
                  rw [getD_at hiu, getD_at hiu'] at ha1
                  rw [getD_at hiv, getD_at hiv'] at ha2
                  obtain ⟨bC1, oC1, rfl, lC1, cC1⟩ := Hu1.out.at_ (by omega)
                  obtain ⟨bC2, oC2, rfl, lC2, cC2⟩ := Hu2.out.at_ (by omega)
                  obtain ⟨bC3, oC3, rfl, lC3, cC3⟩ := Hu3.out.2.2.2 (by omega)
                  obtain ⟨bA1, oA1, rfl, lA1, cA1⟩ := Hq1.out.at_ (by omega)
                  obtain ⟨bA2, oA2, rfl, lA2, cA2⟩ := Hq2.out.at_ (by omega)
                  obtain ⟨bA3, oA3, rfl, lA3, cA3⟩ := Hq3.out.2.2.2 (by omega)
                  have q1 := cC1 i hiu
                  have q2 := cC2 i hiv
                  obtain ⟨AR, cR, q3, hR⟩ := cC3 i hiw
                  have q4 := cA1 (i + 1) hiu'
                  have q5 := cA2 (i + 1) hiv'
                  obtain ⟨AQ, cQ, q6, hQ⟩ := cA3 (i + 1) hiw'
                  rw [← ha1] at q4
                  rw [← ha2] at q5
                  have hRQ : u2.pair[i] = (u.pair[i + 1]).drop 1 := by
                    have e1 : u2.pair.getD i [] = u2.pair[i] := by rw [List.getD_eq_getElem?_getD, List.getElem?_eq_getElem hiw]; rfl
                    have e2 : u.pair.getD (i + 1) [] = u.pair[i + 1] := by rw [List.getD_eq_getElem?_getD, List.getElem?_eq_getElem hiw']; rfl
                    rw [e1, e2] at ha3
                    exact ha3
                  have hQl : (u.pair[i + 1]).length = ks.length + 1 := by have := (hok.np _ (List.getElem_mem hiw')).1; simpa using this
                  obtain ⟨R, hRe⟩ : ∃ r, u2.pair[i] = r := ⟨_, rfl⟩
                  obtain ⟨Q, hQe⟩ : ∃ r, u.pair[i + 1] = r := ⟨_, rfl⟩
                  obtain ⟨m1, hm1⟩ : ∃ m, u2.low[i] = m := ⟨_, rfl⟩
                  obtain ⟨m2, hm2⟩ : ∃ m, u2.up[i] = m := ⟨_, rfl⟩
                  rw [hRe] at q3 hR hRQ
                  rw [hQe] at q6 hQ hRQ hQl
                  rw [hm1] at q1 q4
                  rw [hm2] at q2 q5
                  obtain ⟨bQ, oQ, rfl, lQ, _⟩ := hQ.at_ (by omega)
                  have hQt := hQ.tail1 (by omega)
                  have hcQ : ¬ cQ = 1 := by have := hQ.2.1; omega
                  have hcQ2 : Q.length ≤ cQ := hQ.2.1
                  have hQ1 : 1 ≤ Q.length := by omega
                  have hQ1i : (1 : Int) ≤ (Q.length : Int) := by omega
                  have HRQ : Hid ((R == Q.drop 1) = true) := Lib.hid (by rw [hRQ]; simp)
                  have HKS : Hid (∀ W, Below w12.heap.size w12 W → W.cell? ⟨w6.heap.size, 0, none⟩ = some (.slice (some ⟨bC1, oC1, none⟩) ks.length f1) ∧ W.cell? ⟨bC1, oC1 + i, none⟩ = some (.int .u8 m1) ∧ W.cell? ⟨w2.heap.size, 0, none⟩ = some (.slice (some ⟨bA1, oA1, none⟩) u.low.length c1) ∧ W.cell? ⟨bA1, oA1 + (i + 1), none⟩ = some (.int .u8 m1) ∧ W.cell? ⟨w6.heap.size, 1, none⟩ = some (.slice (some ⟨bC2, oC2, none⟩) ks.length f2) ∧ W.cell? ⟨bC2, oC2 + i, none⟩ = some (.int .u8 m2) ∧ W.cell? ⟨w2.heap.size, 1, none⟩ = some (.slice (some ⟨bA2, oA2, none⟩) u.up.length c2) ∧ W.cell? ⟨bA2, oA2 + (i + 1), none⟩ = some (.int .u8 m2) ∧ W.cell? ⟨w6.heap.size, 2, none⟩ = some (.slice (some ⟨bC3, oC3, none⟩) ks.length f3) ∧ W.cell? ⟨bC3, oC3 + i, none⟩ = some (.slice AR R.length cR) ∧ W.cell? ⟨w2.heap.size, 2, none⟩ = some (.slice (some ⟨bA3, oA3, none⟩) u.pair.length c3) ∧ W.cell? ⟨bA3, oA3 + (i + 1), none⟩ = some (.slice (some ⟨bQ, oQ, none⟩) Q.length cQ)) := Lib.hid fun W hW => by
                    have r12 := HT12.out.below hW HT12.out.lt
                    have h3W := Hb312.out.trans (hW.mono Hb312.out.size)
                    have r3 := HTB.out W h3W
                    exact ⟨r12.cell 0, (hW.cell (p := ⟨bC1, oC1 + i, none⟩) lC1).trans q1, r3.cell 0, (h3W.cell (p := ⟨bA1, oA1 + (i + 1), none⟩) lA1).trans q4, r12.cell 1, (hW.cell (p := ⟨bC2, oC2 + i, none⟩) lC2).trans q2, r3.cell 1, (h3W.cell (p := ⟨bA2, oA2 + (i + 1), none⟩) lA2).trans q5, r12.cell 2, (hW.cell (p := ⟨bC3, oC3 + i, none⟩) lC3).trans q3, r3.cell 2, (h3W.cell (p := ⟨bA3, oA3 + (i + 1), none⟩) lA3).trans q6⟩
                  have HRW : Hid (∀ W, Below w12.heap.size w12 W → RdI .u8 W W.heap.size AR R.length cR R ∧ RdI .u8 W W.heap.size (some ⟨bQ, oQ + 1, none⟩) (Q.length - 1) (cQ - 1) (Q.drop 1)) := Lib.hid fun W hW => by
                    have h3W := Hb312.out.trans (hW.mono Hb312.out.size)
                    exact ⟨(hR.below hW).more hW.size, (hQt.below h3W).more h3W.size⟩
                  have Hbel := Lib.hid hbel
                  clear hok hll hul hpl ha1 ha2 ha3 cC1 cC2 cC3 cA1 cA2 cA3 q1 q2 q3 q4 q5 q6 hR hQ hRQ hQl hRe hQe hm1 hm2 hQt hbel hiu hiv hiw hiu' hiv' hiw' lC1 lC2 lC3 lA1 lA2 lA3 lQ
                  go_upto_region 24 with fail
                  refine wp_region_noPanic ?_
                  refine wp_region_T (fun W => W.cell? ⟨w6.heap.size, 0, none⟩ = some (.slice (some ⟨bC1, oC1, none⟩) ks.length f1) ∧ W.cell? ⟨bC1, oC1 + i, none⟩ = some (.int .u8 m1) ∧ W.cell? ⟨w2.heap.size, 0, none⟩ = some (.slice (some ⟨bA1, oA1, none⟩) u.low.length c1) ∧ W.cell? ⟨bA1, oA1 + (i + 1), none⟩ = some (.int .u8 m1) ∧ W.cell? ⟨w6.heap.size, 1, none⟩ = some (.slice (some ⟨bC2, oC2, none⟩) ks.length f2) ∧ W.cell? ⟨bC2, oC2 + i, none⟩ = some (.int .u8 m2) ∧ W.cell? ⟨w2.heap.size, 1, none⟩ = some (.slice (some ⟨bA2, oA2, none⟩) u.up.length c2) ∧ W.cell? ⟨bA2, oA2 + (i + 1), none⟩ = some (.int .u8 m2) ∧ W.cell? ⟨w6.heap.size, 2, none⟩ = some (.slice (some ⟨bC3, oC3, none⟩) ks.length f3) ∧ W.cell? ⟨bC3, oC3 + i, none⟩ = some (.slice AR R.length cR) ∧ W.cell? ⟨w2.heap.size, 2, none⟩ = some (.slice (some ⟨bA3, oA3, none⟩) u.pair.length c3) ∧ W.cell? ⟨bA3, oA3 + (i + 1), none⟩ = some (.slice (some ⟨bQ, oQ, none⟩) Q.length cQ)) 42 (by kernel_rfl) (HKS.out _ (Below.drew Hbel.out)) (fun hHeld => ?_)
                  have hbD := Below.drew Hbel.out
                  generalize wr.drew = W0 at hHeld hbD ⊢
                  refine wpAnyT_take (i := 0) (v := ?_) rfl (by kernel_rfl) (by kernel_rfl) (by kernel_rfl) (by kernel_rfl) (fun _ _ _ h => h) (Or.inl ⟨by rfl, ?_⟩) (by assumption) ?_
                  rotate_left
                  · (intro w hSw; (try dsimp only at hSw); first | (go_simp; done) | (go_simp; with_reducible rfl))
                  try simp only [Act.put, List.getElem_toArray, List.getElem_cons_zero, List.getElem_cons_succ, List.setIfInBounds_toArray, List.set_cons_zero, List.set_cons_succ]
                  refine wpAnyT_take (i := 1) (v := ?_) rfl (by kernel_rfl) (by kernel_rfl) (by kernel_rfl) (by kernel_rfl) (fun _ _ _ h => h) (Or.inl ⟨by rfl, ?_⟩) (by assumption) ?_
                  rotate_left
                  · (intro w hSw; (try dsimp only at hSw); first | (go_simp; done) | (go_simp; with_reducible rfl))
                  try simp only [Act.put, List.getElem_toArray, List.getElem_cons_zero, List.getElem_cons_succ, List.setIfInBounds_toArray, List.set_cons_zero, List.set_cons_succ]
                  refine wpAnyT_take (i := 2) (v := ?_) rfl (by kernel_rfl) (by kernel_rfl) (by kernel_rfl) (by kernel_rfl) (fun _ _ _ h => h) (Or.inl ⟨by rfl, ?_⟩) (by assumption) ?_
                  rotate_left
                  · (intro w hSw; (try dsimp only at hSw); first | (go_simp; done) | (go_simp; with_reducible rfl))
                  try simp only [Act.put, List.getElem_toArray, List.getElem_cons_zero, List.getElem_cons_succ, List.setIfInBounds_toArray, List.set_cons_zero, List.set_cons_succ]
                  refine wpAnyT_take (i := 3) (v := ?_) rfl (by kernel_rfl) (by kernel_rfl) (by kernel_rfl) (by kernel_rfl) (fun _ _ _ h => h) (Or.inl ⟨by rfl, ?_⟩) (by assumption) ?_
                  rotate_left
                  · (intro w hSw; (try dsimp only at hSw); first | (go_simp; done) | (go_simp; with_reducible rfl))
                  try simp only [Act.put, List.getElem_toArray, List.getElem_cons_zero, List.getElem_cons_succ, List.setIfInBounds_toArray, List.set_cons_zero, List.set_cons_succ]
                  refine wpAnyT_take (i := 4) (v := ?_) rfl (by kernel_rfl) (by kernel_rfl) (by kernel_rfl) (by kernel_rfl) (fun _ _ _ h => h) (Or.inl ⟨by rfl, ?_⟩) (by assumption) ?_
                  rotate_left
                  · (intro w hSw; (try dsimp only at hSw); first | (go_simp; done) | (go_simp; with_reducible rfl))
                  try simp only [Act.put, List.getElem_toArray, List.getElem_cons_zero, List.getElem_cons_succ, List.setIfInBounds_toArray, List.set_cons_zero, List.set_cons_succ]
                  refine wpAnyT_take (i := 5) (v := ?_) rfl (by kernel_rfl) (by kernel_rfl) (by kernel_rfl) (by kernel_rfl) (fun _ _ _ h => h) (Or.inl ⟨by rfl, ?_⟩) (by assumption) ?_
                  rotate_left
                  · (intro w hSw; (try dsimp only at hSw); first | (go_simp; done) | (go_simp; with_reducible rfl))
                  try simp only [Act.put, List.getElem_toArray, List.getElem_cons_zero, List.getElem_cons_succ, List.setIfInBounds_toArray, List.set_cons_zero, List.set_cons_succ]
                  refine wpAnyT_take (i := 6) (v := ?_) rfl (by kernel_rfl) (by kernel_rfl) (by kernel_rfl) (by kernel_rfl) (fun _ _ _ h => h) (Or.inl ⟨by rfl, ?_⟩) (by assumption) ?_
                  rotate_left
                  · (intro w hSw; (try dsimp only at hSw); first | (go_simp; done) | (go_simp; with_reducible rfl))
                  try simp only [Act.put, List.getElem_toArray, List.getElem_cons_zero, List.getElem_cons_succ, List.setIfInBounds_toArray, List.set_cons_zero, List.set_cons_succ]
                  refine wpAnyT_take (i := 7) (v := ?_) rfl (by kernel_rfl) (by kernel_rfl) (by kernel_rfl) (by kernel_rfl) (fun _ _ _ h => h) (Or.inl ⟨by rfl, ?_⟩) (by assumption) ?_
                  rotate_left
                  · (intro w hSw; (try dsimp only at hSw); first | (go_simp; done) | (go_simp; with_reducible rfl))
                  try simp only [Act.put, List.getElem_toArray, List.getElem_cons_zero, List.getElem_cons_succ, List.setIfInBounds_toArray, List.set_cons_zero, List.set_cons_succ]
                  refine wpAnyT_take (i := 8) (v := ?_) rfl (by kernel_rfl) (by kernel_rfl) (by kernel_rfl) (by kernel_rfl) (fun _ _ _ h => h) (Or.inl ⟨by rfl, ?_⟩) (by assumption) ?_
                  rotate_left
                  · (intro w hSw; (try dsimp only at hSw); first | (go_simp; done) | (go_simp; with_reducible rfl))
                  try simp only [Act.put, List.getElem_toArray, List.getElem_cons_zero, List.getElem_cons_succ, List.setIfInBounds_toArray, List.set_cons_zero, List.set_cons_succ]
                  refine wpAnyT_take (i := 9) (v := ?_) rfl (by kernel_rfl) (by kernel_rfl) (by kernel_rfl) (by kernel_rfl) (fun _ _ _ h => h) (Or.inl ⟨by rfl, ?_⟩) (by assumption) ?_
                  rotate_left
                  · (intro w hSw; (try dsimp only at hSw); first | (go_simp; done) | (go_simp; with_reducible rfl))
                  try simp only [Act.put, List.getElem_toArray, List.getElem_cons_zero, List.getElem_cons_succ, List.setIfInBounds_toArray, List.set_cons_zero, List.set_cons_succ]
                  refine wpAnyT_take (i := 10) (v := ?_) rfl (by kernel_rfl) (by kernel_rfl) (by kernel_rfl) (by kernel_rfl) (fun _ _ _ h => h) (Or.inl ⟨by rfl, ?_⟩) (by assumption) ?_
                  rotate_left
                  · (intro w hSw; (try dsimp only at hSw); first | (go_simp; done) | (go_simp; with_reducible rfl))
                  try simp only [Act.put, List.getElem_toArray, List.getElem_cons_zero, List.getElem_cons_succ, List.setIfInBounds_toArray, List.set_cons_zero, List.set_cons_succ]
                  refine wpAnyT_take (i := 11) (v := ?_) rfl (by kernel_rfl) (by kernel_rfl) (by kernel_rfl) (by kernel_rfl) (fun _ _ _ h => h) (Or.inl ⟨by rfl, ?_⟩) (by assumption) ?_
                  rotate_left
                  · (intro w hSw; (try dsimp only at hSw); first | (go_simp; done) | (go_simp; with_reducible rfl))
                  try simp only [Act.put, List.getElem_toArray, List.getElem_cons_zero, List.getElem_cons_succ, List.setIfInBounds_toArray, List.set_cons_zero, List.set_cons_succ]
                  refine wpAnyT_take (i := 12) (v := ?_) rfl (by kernel_rfl) (by kernel_rfl) (by kernel_rfl) (by kernel_rfl) (fun _ _ _ h => h) (Or.inl ⟨by rfl, ?_⟩) (by assumption) ?_
                  rotate_left
                  · (intro w hSw; (try dsimp only at hSw); first | (go_simp; done) | (go_simp; with_reducible rfl))
                  try simp only [Act.put, List.getElem_toArray, List.getElem_cons_zero, List.getElem_cons_succ, List.setIfInBounds_toArray, List.set_cons_zero, List.set_cons_succ]
                  refine wpAnyT_take (i := 13) (v := ?_) rfl (by kernel_rfl) (by kernel_rfl) (by kernel_rfl) (by kernel_rfl) (fun _ _ _ h => h) (Or.inl ⟨by rfl, ?_⟩) (by assumption) ?_
                  rotate_left
                  · (intro w hSw; (try dsimp only at hSw); first | (go_simp; done) | (go_simp; with_reducible rfl))
                  try simp only [Act.put, List.getElem_toArray, List.getElem_cons_zero, List.getElem_cons_succ, List.setIfInBounds_toArray, List.set_cons_zero, List.set_cons_succ]
                  refine wpAnyT_take (i := 14) (v := ?_) rfl (by kernel_rfl) (by kernel_rfl) (by kernel_rfl) (by kernel_rfl) (fun _ _ _ h => h) (Or.inl ⟨by rfl, ?_⟩) (by assumption) ?_
                  rotate_left
                  · (intro w hSw; (try dsimp only at hSw); first | (go_simp; done) | (go_simp; with_reducible rfl))
                  try simp only [Act.put, List.getElem_toArray, List.getElem_cons_zero, List.getElem_cons_succ, List.setIfInBounds_toArray, List.set_cons_zero, List.set_cons_succ]
                  refine wpAnyT_take (i := 15) (v := ?_) rfl (by kernel_rfl) (by kernel_rfl) (by kernel_rfl) (by kernel_rfl) (fun _ _ _ h => h) (Or.inl ⟨by rfl, ?_⟩) (by assumption) ?_
                  rotate_left
                  · (intro w hSw; (try dsimp only at hSw); first | (go_simp; done) | (go_simp; with_reducible rfl))
                  try simp only [Act.put, List.getElem_toArray, List.getElem_cons_zero, List.getElem_cons_succ, List.setIfInBounds_toArray, List.set_cons_zero, List.set_cons_succ]
                  refine wpAnyT_take (i := 16) (v := ?_) rfl (by kernel_rfl) (by kernel_rfl) (by kernel_rfl) (by kernel_rfl) (fun _ _ _ h => h) (Or.inl ⟨by rfl, ?_⟩) (by assumption) ?_
                  rotate_left
                  · (intro w hSw; (try dsimp only at hSw); first | (go_simp; done) | (go_simp; with_reducible rfl))
                  try simp only [Act.put, List.getElem_toArray, List.getElem_cons_zero, List.getElem_cons_succ, List.setIfInBounds_toArray, List.set_cons_zero, List.set_cons_succ]
                  refine wpAnyT_take (i := 17) (v := ?_) rfl (by kernel_rfl) (by kernel_rfl) (by kernel_rfl) (by kernel_rfl) (fun _ _ _ h => h) (Or.inl ⟨by rfl, ?_⟩) (by assumption) ?_
                  rotate_left
                  · (intro w hSw; (try dsimp only at hSw); first | (go_simp; done) | (go_simp; with_reducible rfl))
                  try simp only [Act.put, List.getElem_toArray, List.getElem_cons_zero, List.getElem_cons_succ, List.setIfInBounds_toArray, List.set_cons_zero, List.set_cons_succ]
                  refine wpAnyT_take (i := 18) (v := ?_) rfl (by kernel_rfl) (by kernel_rfl) (by kernel_rfl) (by kernel_rfl) (fun _ _ _ h => h) (Or.inl ⟨by rfl, ?_⟩) (by assumption) ?_
                  rotate_left
                  · (intro w hSw; (try dsimp only at hSw); first | (go_simp; done) | (go_simp; with_reducible rfl))
                  try simp only [Act.put, List.getElem_toArray, List.getElem_cons_zero, List.getElem_cons_succ, List.setIfInBounds_toArray, List.set_cons_zero, List.set_cons_succ]
                  refine wpAnyT_take (i := 19) (v := ?_) rfl (by kernel_rfl) (by kernel_rfl) (by kernel_rfl) (by kernel_rfl) (fun _ _ _ h => h) (Or.inl ⟨by rfl, ?_⟩) (by assumption) ?_
                  rotate_left
                  · (intro w hSw; (try dsimp only at hSw); first | (go_simp; done) | (go_simp; with_reducible rfl))
                  try simp only [Act.put, List.getElem_toArray, List.getElem_cons_zero, List.getElem_cons_succ, List.setIfInBounds_toArray, List.set_cons_zero, List.set_cons_succ]
                  refine wpAnyT_take (i := 20) (v := ?_) rfl (by kernel_rfl) (by kernel_rfl) (by kernel_rfl) (by kernel_rfl) (fun _ _ _ h => h) (Or.inl ⟨by rfl, ?_⟩) (by assumption) ?_
                  rotate_left
                  · (intro w hSw; (try dsimp only at hSw); first | (go_simp; done) | (go_simp; with_reducible rfl))
                  try simp only [Act.put, List.getElem_toArray, List.getElem_cons_zero, List.getElem_cons_succ, List.setIfInBounds_toArray, List.set_cons_zero, List.set_cons_succ]
                  refine wpAnyT_take (i := 21) (v := ?_) rfl (by kernel_rfl) (by kernel_rfl) (by kernel_rfl) (by kernel_rfl) (fun _ _ _ h => h) (Or.inl ⟨by rfl, ?_⟩) (by assumption) ?_
                  rotate_left
                  · (intro w hSw; (try dsimp only at hSw); first | (go_simp; done) | (go_simp; with_reducible rfl))
                  try simp only [Act.put, List.getElem_toArray, List.getElem_cons_zero, List.getElem_cons_succ, List.setIfInBounds_toArray, List.set_cons_zero, List.set_cons_succ]
                  refine wpAnyT_take (i := 22) (v := ?_) rfl (by kernel_rfl) (by kernel_rfl) (by kernel_rfl) (by kernel_rfl) (fun _ _ _ h => h) (Or.inl ⟨by rfl, ?_⟩) (by assumption) ?_
                  rotate_left
                  · (intro w hSw; (try dsimp only at hSw); first | (go_simp; done) | (go_simp; with_reducible rfl))
                  try simp only [Act.put, List.getElem_toArray, List.getElem_cons_zero, List.getElem_cons_succ, List.setIfInBounds_toArray, List.set_cons_zero, List.set_cons_succ]
                  refine wpAnyT_take (i := 23) (v := ?_) rfl (by kernel_rfl) (by kernel_rfl) (by kernel_rfl) (by kernel_rfl) (fun _ _ _ h => h) (Or.inl ⟨by rfl, ?_⟩) (by assumption) ?_
                  rotate_left
                  · (intro w hSw; (try dsimp only at hSw); first | (go_simp; done) | (go_simp; with_reducible rfl))
                  try simp only [Act.put, List.getElem_toArray, List.getElem_cons_zero, List.getElem_cons_succ, List.setIfInBounds_toArray, List.set_cons_zero, List.set_cons_succ]
                  refine wpAnyT_take (i := 24) (v := ?_) rfl (by kernel_rfl) (by kernel_rfl) (by kernel_rfl) (by kernel_rfl) (fun _ _ _ h => h) (Or.inl ⟨by rfl, ?_⟩) (by assumption) ?_
                  rotate_left
                  · (intro w hSw; (try dsimp only at hSw); first | (go_simp; done) | (go_simp; with_reducible rfl))
                  try simp only [Act.put, List.getElem_toArray, List.getElem_cons_zero, List.getElem_cons_succ, List.setIfInBounds_toArray, List.set_cons_zero, List.set_cons_succ]
                  refine wpAnyT_take (i := 25) (v := ?_) rfl (by kernel_rfl) (by kernel_rfl) (by kernel_rfl) (by kernel_rfl) (fun _ _ _ h => h) (Or.inl ⟨by rfl, ?_⟩) (by assumption) ?_
                  rotate_left
                  · (intro w hSw; (try dsimp only at hSw); first | (go_simp; done) | (go_simp; with_reducible rfl))
                  try simp only [Act.put, List.getElem_toArray, List.getElem_cons_zero, List.getElem_cons_succ, List.setIfInBounds_toArray, List.set_cons_zero, List.set_cons_succ]
                  refine wpAnyT_take (i := 26) (v := ?_) rfl (by kernel_rfl) (by kernel_rfl) (by kernel_rfl) (by kernel_rfl) (fun _ _ _ h => h) (Or.inl ⟨by rfl, ?_⟩) (by assumption) ?_
                  rotate_left
                  · (intro w hSw; (try dsimp only at hSw); first | (go_simp; done) | (go_simp; with_reducible rfl))
                  try simp only [Act.put, List.getElem_toArray, List.getElem_cons_zero, List.getElem_cons_succ, List.setIfInBounds_toArray, List.set_cons_zero, List.set_cons_succ]
                  refine wpAnyT_take (i := 27) (v := ?_) rfl (by kernel_rfl) (by kernel_rfl) (by kernel_rfl) (by kernel_rfl) (fun _ _ _ h => h) (Or.inl ⟨by rfl, ?_⟩) (by assumption) ?_
                  rotate_left
                  · (intro w hSw; (try dsimp only at hSw); first | (go_simp; done) | (go_simp; with_reducible rfl))
                  try simp only [Act.put, List.getElem_toArray, List.getElem_cons_zero, List.getElem_cons_succ, List.setIfInBounds_toArray, List.set_cons_zero, List.set_cons_succ]
                  refine wpAnyT_take (i := 28) (v := ?_) rfl (by kernel_rfl) (by kernel_rfl) (by kernel_rfl) (by kernel_rfl) (fun _ _ _ h => h) (Or.inl ⟨by rfl, ?_⟩) (by assumption) ?_
                  rotate_left
                  · (intro w hSw; (try dsimp only at hSw); first | (go_simp; done) | (go_simp; with_reducible rfl))
                  try simp only [Act.put, List.getElem_toArray, List.getElem_cons_zero, List.getElem_cons_succ, List.setIfInBounds_toArray, List.set_cons_zero, List.set_cons_succ]
                  refine wpAnyT_take (i := 29) (v := ?_) rfl (by kernel_rfl) (by kernel_rfl) (by kernel_rfl) (by kernel_rfl) (fun _ _ _ h => h) (Or.inl ⟨by rfl, ?_⟩) (by assumption) ?_
                  rotate_left
                  · (intro w hSw; (try dsimp only at hSw); first | (go_simp; done) | (go_simp; with_reducible rfl))
                  try simp only [Act.put, List.getElem_toArray, List.getElem_cons_zero, List.getElem_cons_succ, List.setIfInBounds_toArray, List.set_cons_zero, List.set_cons_succ]
                  refine wpAnyT_take (i := 30) (v := ?_) rfl (by kernel_rfl) (by kernel_rfl) (by kernel_rfl) (by kernel_rfl) (fun _ _ _ h => h) (Or.inl ⟨by rfl, ?_⟩) (by assumption) ?_
                  rotate_left
                  · (intro w hSw; (try dsimp only at hSw); first | (go_simp; done) | (go_simp; with_reducible rfl))
                  try simp only [Act.put, List.getElem_toArray, List.getElem_cons_zero, List.getElem_cons_succ, List.setIfInBounds_toArray, List.set_cons_zero, List.set_cons_succ]
                  refine wpAnyT_take (i := 31) (v := ?_) rfl (by kernel_rfl) (by kernel_rfl) (by kernel_rfl) (by kernel_rfl) (fun _ _ _ h => h) (Or.inl ⟨by rfl, ?_⟩) (by assumption) ?_
                  rotate_left
                  · (intro w hSw; (try dsimp only at hSw); first | (go_simp; done) | (go_simp; with_reducible rfl))
                  try simp only [Act.put, List.getElem_toArray, List.getElem_cons_zero, List.getElem_cons_succ, List.setIfInBounds_toArray, List.set_cons_zero, List.set_cons_succ]
                  refine wpAnyT_take (i := 32) (v := ?_) rfl (by kernel_rfl) (by kernel_rfl) (by kernel_rfl) (by kernel_rfl) (fun _ _ _ h => h) (Or.inl ⟨by rfl, ?_⟩) (by assumption) ?_
                  rotate_left
                  · (intro w hSw; (try dsimp only at hSw); first | (go_simp; done) | (go_simp; with_reducible rfl))
                  try simp only [Act.put, List.getElem_toArray, List.getElem_cons_zero, List.getElem_cons_succ, List.setIfInBounds_toArray, List.set_cons_zero, List.set_cons_succ]
                  refine wpAnyT_take (i := 33) (v := ?_) rfl (by kernel_rfl) (by kernel_rfl) (by kernel_rfl) (by kernel_rfl) (fun _ _ _ h => h) (Or.inl ⟨by rfl, ?_⟩) (by assumption) ?_
                  rotate_left
                  · (intro w hSw; (try dsimp only at hSw); first | (go_simp; done) | (go_simp; with_reducible rfl))
                  try simp only [Act.put, List.getElem_toArray, List.getElem_cons_zero, List.getElem_cons_succ, List.setIfInBounds_toArray, List.set_cons_zero, List.set_cons_succ]
                  refine wpAnyT_take (i := 34) (v := ?_) rfl (by kernel_rfl) (by kernel_rfl) (by kernel_rfl) (by kernel_rfl) (fun _ _ _ h => h) (Or.inl ⟨by rfl, ?_⟩) (by assumption) ?_
                  rotate_left
                  · (intro w hSw; (try dsimp only at hSw); first | (go_simp; done) | (go_simp; with_reducible rfl))
                  try simp only [Act.put, List.getElem_toArray, List.getElem_cons_zero, List.getElem_cons_succ, List.setIfInBounds_toArray, List.set_cons_zero, List.set_cons_succ]
                  refine wpAnyT_take (i := 35) (v := ?_) rfl (by kernel_rfl) (by kernel_rfl) (by kernel_rfl) (by kernel_rfl) (fun _ _ _ h => h) (Or.inl ⟨by rfl, ?_⟩) (by assumption) ?_
                  rotate_left
                  · (intro w hSw; (try dsimp only at hSw); first | (go_simp; done) | (go_simp; with_reducible rfl))
                  try simp only [Act.put, List.getElem_toArray, List.getElem_cons_zero, List.getElem_cons_succ, List.setIfInBounds_toArray, List.set_cons_zero, List.set_cons_succ]
                  refine wpAnyT_take (i := 36) (v := ?_) rfl (by kernel_rfl) (by kernel_rfl) (by kernel_rfl) (by kernel_rfl) (fun _ _ _ h => h) (Or.inl ⟨by rfl, ?_⟩) (by assumption) ?_
                  rotate_left
                  · (intro w hSw; (try dsimp only at hSw); first | (go_simp; done) | (go_simp; with_reducible rfl))
                  try simp only [Act.put, List.getElem_toArray, List.getElem_cons_zero, List.getElem_cons_succ, List.setIfInBounds_toArray, List.set_cons_zero, List.set_cons_succ]
                  refine wpAnyT_take (i := 37) (v := ?_) rfl (by kernel_rfl) (by kernel_rfl) (by kernel_rfl) (by kernel_rfl) (fun _ _ _ h => h) (Or.inl ⟨by rfl, ?_⟩) (by assumption) ?_
                  rotate_left
                  · (intro w hSw; (try dsimp only at hSw); first | (go_simp; done) | (go_simp; with_reducible rfl))
                  try simp only [Act.put, List.getElem_toArray, List.getElem_cons_zero, List.getElem_cons_succ, List.setIfInBounds_toArray, List.set_cons_zero, List.set_cons_succ]
                  refine wpAnyT_take (i := 38) (v := ?_) rfl (by kernel_rfl) (by kernel_rfl) (by kernel_rfl) (by kernel_rfl) (fun _ _ _ h => h) (Or.inl ⟨by rfl, ?_⟩) (by assumption) ?_
                  rotate_left
                  · (intro w hSw; (try dsimp only at hSw); first | (go_simp; done) | (go_simp; with_reducible rfl))
                  try simp only [Act.put, List.getElem_toArray, List.getElem_cons_zero, List.getElem_cons_succ, List.setIfInBounds_toArray, List.set_cons_zero, List.set_cons_succ]
                  clear hHeld
                  refine wpAnyT_step (i := 39) (by kernel_rfl) rfl (fun K hK => ?_)
                  (go_simp; refine (equalM_any AR R.length cR R (some ⟨bQ, oQ + 1, none⟩) (Q.length - 1) (cQ - 1) (Q.drop 1) W0 (HRW.out W0 hbD).1 (HRW.out W0 hbD).2).mono ?_; rintro e W1 ⟨rfl, hb1⟩; rw [HRQ.out]; have hbX := hbD.trans (hb1.mono hbD.size); clear hb1 hbD)
                  refine hK.out _ _ (HKS.out _ hbX) ?_
                  clear hK K
                  try simp only [Act.put, List.getElem_toArray, List.getElem_cons_zero, List.getElem_cons_succ, List.setIfInBounds_toArray, List.set_cons_zero, List.set_cons_succ]
                  have hHeld := HKS.out _ hbX
                  refine wpAnyT_take (i := 40) (v := ?_) rfl (by kernel_rfl) (by kernel_rfl) (by kernel_rfl) (by kernel_rfl) (fun _ _ _ h => h) (Or.inl ⟨by rfl, ?_⟩) (by assumption) ?_
                  rotate_left
                  · (intro w hSw; (try dsimp only at hSw); first | (go_simp; done) | (go_simp; with_reducible rfl))
                  try simp only [Act.put, List.getElem_toArray, List.getElem_cons_zero, List.getElem_cons_succ, List.setIfInBounds_toArray, List.set_cons_zero, List.set_cons_succ]
                  refine wpAnyT_take (i := 41) (v := ?_) rfl (by kernel_rfl) (by kernel_rfl) (by kernel_rfl) (by kernel_rfl) (fun _ _ _ h => h) (Or.inl ⟨by rfl, ?_⟩) (by assumption) ?_
                  rotate_left
                  · (intro w hSw; (try dsimp only at hSw); first | (go_simp; done) | (go_simp; with_reducible rfl))
                  try simp only [Act.put, List.getElem_toArray, List.getElem_cons_zero, List.getElem_cons_succ, List.setIfInBounds_toArray, List.set_cons_zero, List.set_cons_succ]
                  have HbX := Lib.hid hbX
                  clear hHeld hbX
                  refine wpAnyT_seq 42 (by omega) (by rfl) (by kernel_rfl) ?_
                  simp only [List.drop_succ_cons, List.drop_zero]
                  go_wp2_with fail
                  refine NoPanic.normal ?_
                  go_wp2_with fail
                  go_roundg (ks.length - (i + 1))
                  case measure => omega
                  case rel => exact ⟨i + 1, by omega, rfl, by simp, HbX.out⟩
                · have d5 : decide (i < ks.length) = false := by simpa using hin
                  have Hbw := Lib.hid (Hb12.out.trans (hbel.mono Hb12.out.size))
                  obtain ⟨wG, hwG⟩ : ∃ x, x = wr := ⟨_, rfl⟩
                  subst hwG
                  clear hbel
                  go_wp2_with fail
                  refine (works5_any wG).mono ?_
                  rintro e w8 ⟨rfl, hb8⟩
                  have Hb8 := Lib.hid (Hbw.out.trans (hb8.mono Hbw.out.size))
                  clear hb8
                  go_wp2_with fail
                  go_ret
                  exact ⟨by first | rfl | decide | simp, Hb8.out⟩
            · have hkt := hk9.tail1 (by simp)
              have Hkt : Hid (RdI .i64 w9 w9.heap.size (some ⟨bk, ok + 1, none⟩) ks.length (ck - 1) ks) := Lib.hid hkt
              clear hkt hk9 hck
              go_wp2_with fail
              refine (project_anyF N Al nl cl xs (some ⟨bk, ok + 1, none⟩) ks.length (ck - 1) ks w9 ((Hx.out.below Hb9.out).more Hb9.out.size) Hkt.out).mono ?_
              rintro e wA ⟨v3, u2, er3, rfl, hv3, hR3, hbA, hfr⟩
              obtain ⟨h30, hl1, hl2, hl3, hat⟩ := again_tail Htab.out hR3
              subst h30
              obtain ⟨C1, f1, C2, f2, C3, f3, hveq, hu1, hu2, hu3⟩ := hv3
              rw [hl1, hl2, hl3] at hveq
              rw [hl1] at hu1
              rw [hl2] at hu2
              rw [hl3] at hu3
              subst hveq
              have hC3 : ∀ ad, C3 = some ad → w6.heap.size < ad.block := fun ad ea => Nat.lt_of_lt_of_le HT9.out.lt (hfr _ _ _ _ _ rfl ad ea)
              have hTA := HT9.out.below hbA HT9.out.lt
              have y0 := hTA.cell 0
              have y1 := hTA.cell 1
              have y2 := hTA.cell 2
              simp only [List.getElem?_toArray, List.getElem?_cons_zero, List.getElem?_cons_succ] at y0 y1 y2
              have g0 := hTA.frozen 0
              have g1 := hTA.frozen 1
              have g2 := hTA.frozen 2
              have hbA9 := Hb39.out.trans (hbA.mono Hb39.out.size)
              have hs36 := Hs36.out
              have hb12 := ((hbA9.setCell (p := ⟨w6.heap.size, 0, none⟩) hs36 (.slice C1 ks.length f1)).setCell (p := ⟨w6.heap.size, 1, none⟩) hs36 (.slice C2 ks.length f2)).setCell (p := ⟨w6.heap.size, 2, none⟩) hs36 (.slice C3 ks.length f3)
              have hT12 := hTA.set3 (.slice C1 ks.length f1) (.slice C2 ks.length f2) (.slice C3 ks.length f3)
              have hw12 : ∀ b o, b ≠ w6.heap.size → (((wA.setCell ⟨w6.heap.size, 0, none⟩ (.slice C1 ks.length f1)).setCell ⟨w6.heap.size, 1, none⟩ (.slice C2 ks.length f2)).setCell ⟨w6.heap.size, 2, none⟩ (.slice C3 ks.length f3)).cell? ⟨b, o, none⟩ = wA.cell? ⟨b, o, none⟩ := fun b o hne => set3_other wA o hne _ _ _
              have hsz12 : (((wA.setCell ⟨w6.heap.size, 0, none⟩ (.slice C1 ks.length f1)).setCell ⟨w6.heap.size, 1, none⟩ (.slice C2 ks.length f2)).setCell ⟨w6.heap.size, 2, none⟩ (.slice C3 ks.length f3)).heap.size = wA.heap.size := by simp [World.setCell]
              have hu1 := hu1.box hTA hw12 (Nat.le_of_eq hsz12.symm)
              have hu2 := hu2.box hTA hw12 (Nat.le_of_eq hsz12.symm)
              have hu3 := hu3.box hTA hC3 hw12 (Nat.le_of_eq hsz12.symm)
              obtain ⟨w12, hww⟩ : ∃ x, ((wA.setCell ⟨w6.heap.size, 0, none⟩ (.slice C1 ks.length f1)).setCell ⟨w6.heap.size, 1, none⟩ (.slice C2 ks.length f2)).setCell ⟨w6.heap.size, 2, none⟩ (.slice C3 ks.length f3) = x := ⟨_, rfl⟩
              rw [hww] at hb12 hT12 hu1 hu2 hu3
              have Hww := Lib.hid hww
              have Hu1 := Lib.hid hu1
              have Hu2 := Lib.hid hu2
              have Hu3 := Lib.hid hu3
              have HT12 := Lib.hid hT12
              have Hb312 := Lib.hid hb12
              have Hb12 := Lib.hid (Hb3.out.trans (hb12.mono Hb3.out.size))
              have Hat := Lib.hid hat
              have Hl1 := Lib.hid hl1
              have Hl2 := Lib.hid hl2
              have Hl3 := Lib.hid hl3
              clear hR3 hbA hfr hl1 hl2 hl3 hat hu1 hu2 hu3 hC3 hTA hbA9 hs36 hb12 hT12 hw12 hsz12 hww
              go_upto_region 19 with fail
              rw [Hww.out]
              clear y0 y1 y2 g0 g1 g2
              have y0 := HT12.out.cell 0
              have y1 := HT12.out.cell 1
              have y2 := HT12.out.cell 2
              simp only [List.getElem?_toArray, List.getElem?_cons_zero, List.getElem?_cons_succ] at y0 y1 y2
              have ks63 : ks.length + 1 ≤ 9223372036854775807 := by have := hk6; simp at this; omega
              go_wp2_with fail
              clear y0 y1 y2
              go_loopg [100] ks.length (fun gh s100 wr => ∃ i : Nat, i ≤ ks.length ∧ gh = ks.length - i ∧ s100 = .int .i64 (i : Nat) ∧ Below w12.heap.size w12 wr)
              case atStart => exact ⟨0, Nat.zero_le _, rfl, rfl, Below.refl _ _⟩
              case round =>
                obtain ⟨i, hi, rfl, rfl, hbel⟩ := hrel
                by_cases hin : i < ks.length
                · have d5 : decide (i < ks.length) = true := by simpa using hin
                  have i1 : (0 : Int) ≤ (i : Int) := by omega
                  have i2 : (i : Int) < ks.length := by omega
                  have hok := Htab.out.ok_
                  have hll : u.low.length = ks.length + 1 := by have := hok.ll; simpa using this
                  have hul : u.up.length = ks.length + 1 := by have := hok.ul; simpa using this
                  have hpl : u.pair.length = ks.length + 1 := by have := hok.pl; simpa using this
                  have j1 : (i : Int) + 1 < u.low.length := by omega
                  have j2 : (i : Int) + 1 < u.up.length := by omega
                  have j3 : (i : Int) + 1 < u.pair.length := by omega
                  have i3 : (0 : Int) ≤ (i : Int) + 1 := by omega
                  have hwr : IntKind.i64.wrap ((i : Int) + 1) = (i : Int) + 1 := IntWalk.i64_in _ (by omega)
                  have htn : ((i : Int) + 1).toNat = i + 1 := by omega
                  obtain ⟨ha1, ha2, ha3⟩ := Hat.out i hin
                  have hiu : i < u2.low.length := by rw [Hl1.out]; exact hin
                  have hiv : i < u2.up.length := by rw [Hl2.out]; exact hin
                  have hiw : i < u2.pair.length := by rw [Hl3.out]; exact hin
                  have hiu' : i + 1 < u.low.length := by omega
                  have hiv' : i + 1 < u.up.length := by omega
                  have hiw' : i + 1 < u.pair.length := by omega
                  rw [getD_at hiu, getD_at hiu'] at ha1
                  rw [getD_at hiv, getD_at hiv'] at ha2
                  obtain ⟨bC1, oC1, rfl, lC1, cC1⟩ := Hu1.out.at_ (by omega)
                  obtain ⟨bC2, oC2, rfl, lC2, cC2⟩ := Hu2.out.at_ (by omega)
                  obtain ⟨bC3, oC3, rfl, lC3, cC3⟩ := Hu3.out.2.2.2 (by omega)
                  obtain ⟨bA1, oA1, rfl, lA1, cA1⟩ := Hq1.out.at_ (by omega)
                  obtain ⟨bA2, oA2, rfl, lA2, cA2⟩ := Hq2.out.at_ (by omega)
                  obtain ⟨bA3, oA3, rfl, lA3, cA3⟩ := Hq3.out.2.2.2 (by omega)
                  have q1 := cC1 i hiu
                  have q2 := cC2 i hiv
                  obtain ⟨AR, cR, q3, hR⟩ := cC3 i hiw
                  have q4 := cA1 (i + 1) hiu'
                  have q5 := cA2 (i + 1) hiv'
                  obtain ⟨AQ, cQ, q6, hQ⟩ := cA3 (i + 1) hiw'
                  rw [← ha1] at q4
                  rw [← ha2] at q5
                  have hRQ : u2.pair[i] = (u.pair[i + 1]).drop 1 := by
                    have e1 : u2.pair.getD i [] = u2.pair[i] := by rw [List.getD_eq_getElem?_getD, List.getElem?_eq_getElem hiw]; rfl
                    have e2 : u.pair.getD (i + 1) [] = u.pair[i + 1] := by rw [List.getD_eq_getElem?_getD, List.getElem?_eq_getElem hiw']; rfl
                    rw [e1, e2] at ha3
                    exact ha3
                  have hQl : (u.pair[i + 1]).length = ks.length + 1 := by have := (hok.np _ (List.getElem_mem hiw')).1; simpa using this
                  obtain ⟨R, hRe⟩ : ∃ r, u2.pair[i] = r := ⟨_, rfl⟩
                  obtain ⟨Q, hQe⟩ : ∃ r, u.pair[i + 1] = r := ⟨_, rfl⟩
                  obtain ⟨m1, hm1⟩ : ∃ m, u2.low[i] = m := ⟨_, rfl⟩
                  obtain ⟨m2, hm2⟩ : ∃ m, u2.up[i] = m := ⟨_, rfl⟩
                  rw [hRe] at q3 hR hRQ
                  rw [hQe] at q6 hQ hRQ hQl
                  rw [hm1] at q1 q4
                  rw [hm2] at q2 q5
                  obtain ⟨bQ, oQ, rfl, lQ, _⟩ := hQ.at_ (by omega)
                  have hQt := hQ.tail1 (by omega)
                  have hcQ : ¬ cQ = 1 := by have := hQ.2.1; omega
                  have hcQ2 : Q.length ≤ cQ := hQ.2.1
                  have hQ1 : 1 ≤ Q.length := by omega
                  have hQ1i : (1 : Int) ≤ (Q.length : Int) := by omega
                  have HRQ : Hid ((R == Q.drop 1) = true) := Lib.hid (by rw [hRQ]; simp)
                  have HKS : Hid (∀ W, Below w12.heap.size w12 W → W.cell? ⟨w6.heap.size, 0, none⟩ = some (.slice (some ⟨bC1, oC1, none⟩) ks.length f1) ∧ W.cell? ⟨bC1, oC1 + i, none⟩ = some (.int .u8 m1) ∧ W.cell? ⟨w2.heap.size, 0, none⟩ = some (.slice (some ⟨bA1, oA1, none⟩) u.low.length c1) ∧ W.cell? ⟨bA1, oA1 + (i + 1), none⟩ = some (.int .u8 m1) ∧ W.cell? ⟨w6.heap.size, 1, none⟩ = some (.slice (some ⟨bC2, oC2, none⟩) ks.length f2) ∧ W.cell? ⟨bC2, oC2 + i, none⟩ = some (.int .u8 m2) ∧ W.cell? ⟨w2.heap.size, 1, none⟩ = some (.slice (some ⟨bA2, oA2, none⟩) u.up.length c2) ∧ W.cell? ⟨bA2, oA2 + (i + 1), none⟩ = some (.int .u8 m2) ∧ W.cell? ⟨w6.heap.size, 2, none⟩ = some (.slice (some ⟨bC3, oC3, none⟩) ks.length f3) ∧ W.cell? ⟨bC3, oC3 + i, none⟩ = some (.slice AR R.length cR) ∧ W.cell? ⟨w2.heap.size, 2, none⟩ = some (.slice (some ⟨bA3, oA3, none⟩) u.pair.length c3) ∧ W.cell? ⟨bA3, oA3 + (i + 1), none⟩ = some (.slice (some ⟨bQ, oQ, none⟩) Q.length cQ)) := Lib.hid fun W hW => by
                    have r12 := HT12.out.below hW HT12.out.lt
                    have h3W := Hb312.out.trans (hW.mono Hb312.out.size)
                    have r3 := HTB.out W h3W
                    exact ⟨r12.cell 0, (hW.cell (p := ⟨bC1, oC1 + i, none⟩) lC1).trans q1, r3.cell 0, (h3W.cell (p := ⟨bA1, oA1 + (i + 1), none⟩) lA1).trans q4, r12.cell 1, (hW.cell (p := ⟨bC2, oC2 + i, none⟩) lC2).trans q2, r3.cell 1, (h3W.cell (p := ⟨bA2, oA2 + (i + 1), none⟩) lA2).trans q5, r12.cell 2, (hW.cell (p := ⟨bC3, oC3 + i, none⟩) lC3).trans q3, r3.cell 2, (h3W.cell (p := ⟨bA3, oA3 + (i + 1), none⟩) lA3).trans q6⟩
                  have HRW : Hid (∀ W, Below w12.heap.size w12 W → RdI .u8 W W.heap.size AR R.length cR R ∧ RdI .u8 W W.heap.size (some ⟨bQ, oQ + 1, none⟩) (Q.length - 1) (cQ - 1) (Q.drop 1)) := Lib.hid fun W hW => by
                    have h3W := Hb312.out.trans (hW.mono Hb312.out.size)
                    exact ⟨(hR.below hW).more hW.size, (hQt.below h3W).more h3W.size⟩
                  have Hbel := Lib.hid hbel
                  clear hok hll hul hpl ha1 ha2 ha3 cC1 cC2 cC3 cA1 cA2 cA3 q1 q2 q3 q4 q5 q6 hR hQ hRQ hQl hRe hQe hm1 hm2 hQt hbel hiu hiv hiw hiu' hiv' hiw' lC1 lC2 lC3 lA1 lA2 lA3 lQ
                  go_upto_region 24 with fail
                  refine wp_region_noPanic ?_
                  refine wp_region_T (fun W => W.cell? ⟨w6.heap.size, 0, none⟩ = some (.slice (some ⟨bC1, oC1, none⟩) ks.length f1) ∧ W.cell? ⟨bC1, oC1 + i, none⟩ = some (.int .u8 m1) ∧ W.cell? ⟨w2.heap.size, 0, none⟩ = some (.slice (some ⟨bA1, oA1, none⟩) u.low.length c1) ∧ W.cell? ⟨bA1, oA1 + (i + 1), none⟩ = some (.int .u8 m1) ∧ W.cell? ⟨w6.heap.size, 1, none⟩ = some (.slice (some ⟨bC2, oC2, none⟩) ks.length f2) ∧ W.cell? ⟨bC2, oC2 + i, none⟩ = some (.int .u8 m2) ∧ W.cell? ⟨w2.heap.size, 1, none⟩ = some (.slice (some ⟨bA2, oA2, none⟩) u.up.length c2) ∧ W.cell? ⟨bA2, oA2 + (i + 1), none⟩ = some (.int .u8 m2) ∧ W.cell? ⟨w6.heap.size, 2, none⟩ = some (.slice (some ⟨bC3, oC3, none⟩) ks.length f3) ∧ W.cell? ⟨bC3, oC3 + i, none⟩ = some (.slice AR R.length cR) ∧ W.cell? ⟨w2.heap.size, 2, none⟩ = some (.slice (some ⟨bA3, oA3, none⟩) u.pair.length c3) ∧ W.cell? ⟨bA3, oA3 + (i + 1), none⟩ = some (.slice (some ⟨bQ, oQ, none⟩) Q.length cQ)) 42 (by kernel_rfl) (HKS.out _ (Below.drew Hbel.out)) (fun hHeld => ?_)
                  have hbD := Below.drew Hbel.out
                  generalize wr.drew = W0 at hHeld hbD ⊢
                  refine wpAnyT_take (i := 0) (v := ?_) rfl (by kernel_rfl) (by kernel_rfl) (by kernel_rfl) (by kernel_rfl) (fun _ _ _ h => h) (Or.inl ⟨by rfl, ?_⟩) (by assumption) ?_
                  rotate_left
                  · (intro w hSw; (try dsimp only at hSw); first | (go_simp; done) | (go_simp; with_reducible rfl))
                  try simp only [Act.put, List.getElem_toArray, List.getElem_cons_zero, List.getElem_cons_succ, List.setIfInBounds_toArray, List.set_cons_zero, List.set_cons_succ]
                  refine wpAnyT_take (i := 1) (v := ?_) rfl (by kernel_rfl) (by kernel_rfl) (by kernel_rfl) (by kernel_rfl) (fun _ _ _ h => h) (Or.inl ⟨by rfl, ?_⟩) (by assumption) ?_
                  rotate_left
                  · (intro w hSw; (try dsimp only at hSw); first | (go_simp; done) | (go_simp; with_reducible rfl))
                  try simp only [Act.put, List.getElem_toArray, List.getElem_cons_zero, List.getElem_cons_succ, List.setIfInBounds_toArray, List.set_cons_zero, List.set_cons_succ]
                  refine wpAnyT_take (i := 2) (v := ?_) rfl (by kernel_rfl) (by kernel_rfl) (by kernel_rfl) (by kernel_rfl) (fun _ _ _ h => h) (Or.inl ⟨by rfl, ?_⟩) (by assumption) ?_
                  rotate_left
                  · (intro w hSw; (try dsimp only at hSw); first | (go_simp; done) | (go_simp; with_reducible rfl))
                  try simp only [Act.put, List.getElem_toArray, List.getElem_cons_zero, List.getElem_cons_succ, List.setIfInBounds_toArray, List.set_cons_zero, List.set_cons_succ]
                  refine wpAnyT_take (i := 3) (v := ?_) rfl (by kernel_rfl) (by kernel_rfl) (by kernel_rfl) (by kernel_rfl) (fun _ _ _ h => h) (Or.inl ⟨by rfl, ?_⟩) (by assumption) ?_
                  rotate_left
                  · (intro w hSw; (try dsimp only at hSw); first | (go_simp; done) | (go_simp; with_reducible rfl))
                  try simp only [Act.put, List.getElem_toArray, List.getElem_cons_zero, List.getElem_cons_succ, List.setIfInBounds_toArray, List.set_cons_zero, List.set_cons_succ]
                  refine wpAnyT_take (i := 4) (v := ?_) rfl (by kernel_rfl) (by kernel_rfl) (by kernel_rfl) (by kernel_rfl) (fun _ _ _ h => h) (Or.inl ⟨by rfl, ?_⟩) (by assumption) ?_
                  rotate_left
                  · (intro w hSw; (try dsimp only at hSw); first | (go_simp; done) | (go_simp; with_reducible rfl))
                  try simp only [Act.put, List.getElem_toArray, List.getElem_cons_zero, List.getElem_cons_succ, List.setIfInBounds_toArray, List.set_cons_zero, List.set_cons_succ]
                  refine wpAnyT_take (i := 5) (v := ?_) rfl (by kernel_rfl) (by kernel_rfl) (by kernel_rfl) (by kernel_rfl) (fun _ _ _ h => h) (Or.inl ⟨by rfl, ?_⟩) (by assumption) ?_
                  rotate_left
                  · (intro w hSw; (try dsimp only at hSw); first | (go_simp; done) | (go_simp; with_reducible rfl))
                  try simp only [Act.put, List.getElem_toArray, List.getElem_cons_zero, List.getElem_cons_succ, List.setIfInBounds_toArray, List.set_cons_zero, List.set_cons_succ]
                  refine wpAnyT_take (i := 6) (v := ?_) rfl (by kernel_rfl) (by kernel_rfl) (by kernel_rfl) (by kernel_rfl) (fun _ _ _ h => h) (Or.inl ⟨by rfl, ?_⟩) (by assumption) ?_
                  rotate_left
                  · (intro w hSw; (try dsimp only at hSw); first | (go_simp; done) | (go_simp; with_reducible rfl))
                  try simp only [Act.put, List.getElem_toArray, List.getElem_cons_zero, List.getElem_cons_succ, List.setIfInBounds_toArray, List.set_cons_zero, List.set_cons_succ]
                  refine wpAnyT_take (i := 7) (v := ?_) rfl (by kernel_rfl) (by kernel_rfl) (by kernel_rfl) (by kernel_rfl) (fun _ _ _ h => h) (Or.inl ⟨by rfl, ?_⟩) (by assumption) ?_
                  rotate_left
                  · (intro w hSw; (try dsimp only at hSw); first | (go_simp; done) | (go_simp; with_reducible rfl))
                  try simp only [Act.put, List.getElem_toArray, List.getElem_cons_zero, List.getElem_cons_succ, List.setIfInBounds_toArray, List.set_cons_zero, List.set_cons_succ]
                  refine wpAnyT_take (i := 8) (v := ?_) rfl (by kernel_rfl) (by kernel_rfl) (by kernel_rfl) (by kernel_rfl) (fun _ _ _ h => h) (Or.inl ⟨by rfl, ?_⟩) (by assumption) ?_
                  rotate_left
                  · (intro w hSw; (try dsimp only at hSw); first | (go_simp; done) | (go_simp; with_reducible rfl))
                  try simp only [Act.put, List.getElem_toArray, List.getElem_cons_zero, List.getElem_cons_succ, List.setIfInBounds_toArray, List.set_cons_zero, List.set_cons_succ]
                  refine wpAnyT_take (i := 9) (v := ?_) rfl (by kernel_rfl) (by kernel_rfl) (by kernel_rfl) (by kernel_rfl) (fun _ _ _ h => h) (Or.inl ⟨by rfl, ?_⟩) (by assumption) ?_
                  rotate_left
                  · (intro w hSw; (try dsimp only at hSw); first | (go_simp; done) | (go_simp; with_reducible rfl))
                  try simp only [Act.put, List.getElem_toArray, List.getElem_cons_zero, List.getElem_cons_succ, List.setIfInBounds_toArray, List.set_cons_zero, List.set_cons_succ]
                  refine wpAnyT_take (i := 10) (v := ?_) rfl (by kernel_rfl) (by kernel_rfl) (by kernel_rfl) (by kernel_rfl) (fun _ _ _ h => h) (Or.inl ⟨by rfl, ?_⟩) (by assumption) ?_
                  rotate_left
                  · (intro w hSw; (try dsimp only at hSw); first | (go_simp; done) | (go_simp; with_reducible rfl))
                  try simp only [Act.put, List.getElem_toArray, List.getElem_cons_zero, List.getElem_cons_succ, List.setIfInBounds_toArray, List.set_cons_zero, List.set_cons_succ]
                  refine wpAnyT_take (i := 11) (v := ?_) rfl (by kernel_rfl) (by kernel_rfl) (by kernel_rfl) (by kernel_rfl) (fun _ _ _ h => h) (Or.inl ⟨by rfl, ?_⟩) (by assumption) ?_
                  rotate_left
                  · (intro w hSw; (try dsimp only at hSw); first | (go_simp; done) | (go_simp; with_reducible rfl))
                  try simp only [Act.put, List.getElem_toArray, List.getElem_cons_zero, List.getElem_cons_succ, List.setIfInBounds_toArray, List.set_cons_zero, List.set_cons_succ]
                  refine wpAnyT_take (i := 12) (v := ?_) rfl (by kernel_rfl) (by kernel_rfl) (by kernel_rfl) (by kernel_rfl) (fun _ _ _ h => h) (Or.inl ⟨by rfl, ?_⟩) (by assumption) ?_
                  rotate_left
                  · (intro w hSw; (try dsimp only at hSw); first | (go_simp; done) | (go_simp; with_reducible rfl))
                  try simp only [Act.put, List.getElem_toArray, List.getElem_cons_zero, List.getElem_cons_succ, List.setIfInBounds_toArray, List.set_cons_zero, List.set_cons_succ]
                  refine wpAnyT_take (i := 13) (v := ?_) rfl (by kernel_rfl) (by kernel_rfl) (by kernel_rfl) (by kernel_rfl) (fun _ _ _ h => h) (Or.inl ⟨by rfl, ?_⟩) (by assumption) ?_
                  rotate_left
                  · (intro w hSw; (try dsimp only at hSw); first | (go_simp; done) | (go_simp; with_reducible rfl))
                  try simp only [Act.put, List.getElem_toArray, List.getElem_cons_zero, List.getElem_cons_succ, List.setIfInBounds_toArray, List.set_cons_zero, List.set_cons_succ]
                  refine wpAnyT_take (i := 14) (v := ?_) rfl (by kernel_rfl) (by kernel_rfl) (by kernel_rfl) (by kernel_rfl) (fun _ _ _ h => h) (Or.inl ⟨by rfl, ?_⟩) (by assumption) ?_
                  rotate_left
                  · (intro w hSw; (try dsimp only at hSw); first | (go_simp; done) | (go_simp; with_reducible rfl))
                  try simp only [Act.put, List.getElem_toArray, List.getElem_cons_zero, List.getElem_cons_succ, List.setIfInBounds_toArray, List.set_cons_zero, List.set_cons_succ]
                  refine wpAnyT_take (i := 15) (v := ?_) rfl (by kernel_rfl) (by kernel_rfl) (by kernel_rfl) (by kernel_rfl) (fun _ _ _ h => h) (Or.inl ⟨by rfl, ?_⟩) (by assumption) ?_
                  rotate_left
                  · (intro w hSw; (try dsimp only at hSw); first | (go_simp; done) | (go_simp; with_reducible rfl))
                  try simp only [Act.put, List.getElem_toArray, List.getElem_cons_zero, List.getElem_cons_succ, List.setIfInBounds_toArray, List.set_cons_zero, List.set_cons_succ]
                  refine wpAnyT_take (i := 16) (v := ?_) rfl (by kernel_rfl) (by kernel_rfl) (by kernel_rfl) (by kernel_rfl) (fun _ _ _ h => h) (Or.inl ⟨by rfl, ?_⟩) (by assumption) ?_
                  rotate_left
                  · (intro w hSw; (try dsimp only at hSw); first | (go_simp; done) | (go_simp; with_reducible rfl))
                  try simp only [Act.put, List.getElem_toArray, List.getElem_cons_zero, List.getElem_cons_succ, List.setIfInBounds_toArray, List.set_cons_zero, List.set_cons_succ]
                  refine wpAnyT_take (i := 17) (v := ?_) rfl (by kernel_rfl) (by kernel_rfl) (by kernel_rfl) (by kernel_rfl) (fun _ _ _ h => h) (Or.inl ⟨by rfl, ?_⟩) (by assumption) ?_
                  rotate_left
                  · (intro w hSw; (try dsimp only at hSw); first | (go_simp; done) | (go_simp; with_reducible rfl))
                  try simp only [Act.put, List.getElem_toArray, List.getElem_cons_zero, List.getElem_cons_succ, List.setIfInBounds_toArray, List.set_cons_zero, List.set_cons_succ]
                  refine wpAnyT_take (i := 18) (v := ?_) rfl (by kernel_rfl) (by kernel_rfl) (by kernel_rfl) (by kernel_rfl) (fun _ _ _ h => h) (Or.inl ⟨by rfl, ?_⟩) (by assumption) ?_
                  rotate_left
                  · (intro w hSw; (try dsimp only at hSw); first | (go_simp; done) | (go_simp; with_reducible rfl))
                  try simp only [Act.put, List.getElem_toArray, List.getElem_cons_zero, List.getElem_cons_succ, List.setIfInBounds_toArray, List.set_cons_zero, List.set_cons_succ]
                  refine wpAnyT_take (i := 19) (v := ?_) rfl (by kernel_rfl) (by kernel_rfl) (by kernel_rfl) (by kernel_rfl) (fun _ _ _ h => h) (Or.inl ⟨by rfl, ?_⟩) (by assumption) ?_
                  rotate_left
                  · (intro w hSw; (try dsimp only at hSw); first | (go_simp; done) | (go_simp; with_reducible rfl))
                  try simp only [Act.put, List.getElem_toArray, List.getElem_cons_zero, List.getElem_cons_succ, List.setIfInBounds_toArray, List.set_cons_zero, List.set_cons_succ]
                  refine wpAnyT_take (i := 20) (v := ?_) rfl (by kernel_rfl) (by kernel_rfl) (by kernel_rfl) (by kernel_rfl) (fun _ _ _ h => h) (Or.inl ⟨by rfl, ?_⟩) (by assumption) ?_
                  rotate_left
                  · (intro w hSw; (try dsimp only at hSw); first | (go_simp; done) | (go_simp; with_reducible rfl))
                  try simp only [Act.put, List.getElem_toArray, List.getElem_cons_zero, List.getElem_cons_succ, List.setIfInBounds_toArray, List.set_cons_zero, List.set_cons_succ]
                  refine wpAnyT_take (i := 21) (v := ?_) rfl (by kernel_rfl) (by kernel_rfl) (by kernel_rfl) (by kernel_rfl) (fun _ _ _ h => h) (Or.inl ⟨by rfl, ?_⟩) (by assumption) ?_
                  rotate_left
                  · (intro w hSw; (try dsimp only at hSw); first | (go_simp; done) | (go_simp; with_reducible rfl))
                  try simp only [Act.put, List.getElem_toArray, List.getElem_cons_zero, List.getElem_cons_succ, List.setIfInBounds_toArray, List.set_cons_zero, List.set_cons_succ]
                  refine wpAnyT_take (i := 22) (v := ?_) rfl (by kernel_rfl) (by kernel_rfl) (by kernel_rfl) (by kernel_rfl) (fun _ _ _ h => h) (Or.inl ⟨by rfl, ?_⟩) (by assumption) ?_
                  rotate_left
                  · (intro w hSw; (try dsimp only at hSw); first | (go_simp; done) | (go_simp; with_reducible rfl))
                  try simp only [Act.put, List.getElem_toArray, List.getElem_cons_zero, List.getElem_cons_succ, List.setIfInBounds_toArray, List.set_cons_zero, List.set_cons_succ]
                  refine wpAnyT_take (i := 23) (v := ?_) rfl (by kernel_rfl) (by kernel_rfl) (by kernel_rfl) (by kernel_rfl) (fun _ _ _ h => h) (Or.inl ⟨by rfl, ?_⟩) (by assumption) ?_
                  rotate_left
                  · (intro w hSw; (try dsimp only at hSw); first | (go_simp; done) | (go_simp; with_reducible rfl))
                  try simp only [Act.put, List.getElem_toArray, List.getElem_cons_zero, List.getElem_cons_succ, List.setIfInBounds_toArray, List.set_cons_zero, List.set_cons_succ]
                  refine wpAnyT_take (i := 24) (v := ?_) rfl (by kernel_rfl) (by kernel_rfl) (by kernel_rfl) (by kernel_rfl) (fun _ _ _ h => h) (Or.inl ⟨by rfl, ?_⟩) (by assumption) ?_
                  rotate_left
                  · (intro w hSw; (try dsimp only at hSw); first | (go_simp; done) | (go_simp; with_reducible rfl))
                  try simp only [Act.put, List.getElem_toArray, List.getElem_cons_zero, List.getElem_cons_succ, List.setIfInBounds_toArray, List.set_cons_zero, List.set_cons_succ]
                  refine wpAnyT_take (i := 25) (v := ?_) rfl (by kernel_rfl) (by kernel_rfl) (by kernel_rfl) (by kernel_rfl) (fun _ _ _ h => h) (Or.inl ⟨by rfl, ?_⟩) (by assumption) ?_
                  rotate_left
                  · (intro w hSw; (try dsimp only at hSw); first | (go_simp; done) | (go_simp; with_reducible rfl))
                  try simp only [Act.put, List.getElem_toArray, List.getElem_cons_zero, List.getElem_cons_succ, List.setIfInBounds_toArray, List.set_cons_zero, List.set_cons_succ]
                  refine wpAnyT_take (i := 26) (v := ?_) rfl (by kernel_rfl) (by kernel_rfl) (by kernel_rfl) (by kernel_rfl) (fun _ _ _ h => h) (Or.inl ⟨by rfl, ?_⟩) (by assumption) ?_
                  rotate_left
                  · (intro w hSw; (try dsimp only at hSw); first | (go_simp; done) | (go_simp; with_reducible rfl))
                  try simp only [Act.put, List.getElem_toArray, List.getElem_cons_zero, List.getElem_cons_succ, List.setIfInBounds_toArray, List.set_cons_zero, List.set_cons_succ]
                  refine wpAnyT_take (i := 27) (v := ?_) rfl (by kernel_rfl) (by kernel_rfl) (by kernel_rfl) (by kernel_rfl) (fun _ _ _ h => h) (Or.inl ⟨by rfl, ?_⟩) (by assumption) ?_
                  rotate_left
                  · (intro w hSw; (try dsimp only at hSw); first | (go_simp; done) | (go_simp; with_reducible rfl))
                  try simp only [Act.put, List.getElem_toArray, List.getElem_cons_zero, List.getElem_cons_succ, List.setIfInBounds_toArray, List.set_cons_zero, List.set_cons_succ]
                  refine wpAnyT_take (i := 28) (v := ?_) rfl (by kernel_rfl) (by kernel_rfl) (by kernel_rfl) (by kernel_rfl) (fun _ _ _ h => h) (Or.inl ⟨by rfl, ?_⟩) (by assumption) ?_
                  rotate_left
                  · (intro w hSw; (try dsimp only at hSw); first | (go_simp; done) | (go_simp; with_reducible rfl))
                  try simp only [Act.put, List.getElem_toArray, List.getElem_cons_zero, List.getElem_cons_succ, List.setIfInBounds_toArray, List.set_cons_zero, List.set_cons_succ]
                  refine wpAnyT_take (i := 29) (v := ?_) rfl (by kernel_rfl) (by kernel_rfl) (by kernel_rfl) (by kernel_rfl) (fun _ _ _ h => h) (Or.inl ⟨by rfl, ?_⟩) (by assumption) ?_
                  rotate_left
                  · (intro w hSw; (try dsimp only at hSw); first | (go_simp; done) | (go_simp; with_reducible rfl))
                  try simp only [Act.put, List.getElem_toArray, List.getElem_cons_zero, List.getElem_cons_succ, List.setIfInBounds_toArray, List.set_cons_zero, List.set_cons_succ]
                  refine wpAnyT_take (i := 30) (v := ?_) rfl (by kernel_rfl) (by kernel_rfl) (by kernel_rfl) (by kernel_rfl) (fun _ _ _ h => h) (Or.inl ⟨by rfl, ?_⟩) (by assumption) ?_
                  rotate_left
                  · (intro w hSw; (try dsimp only at hSw); first | (go_simp; done) | (go_simp; with_reducible rfl))
                  try simp only [Act.put, List.getElem_toArray, List.getElem_cons_zero, List.getElem_cons_succ, List.setIfInBounds_toArray, List.set_cons_zero, List.set_cons_succ]
                  refine wpAnyT_take (i := 31) (v := ?_) rfl (by kernel_rfl) (by kernel_rfl) (by kernel_rfl) (by kernel_rfl) (fun _ _ _ h => h) (Or.inl ⟨by rfl, ?_⟩) (by assumption) ?_
                  rotate_left
                  · (intro w hSw; (try dsimp only at hSw); first | (go_simp; done) | (go_simp; with_reducible rfl))
                  try simp only [Act.put, List.getElem_toArray, List.getElem_cons_zero, List.getElem_cons_succ, List.setIfInBounds_toArray, List.set_cons_zero, List.set_cons_succ]
                  refine wpAnyT_take (i := 32) (v := ?_) rfl (by kernel_rfl) (by kernel_rfl) (by kernel_rfl) (by kernel_rfl) (fun _ _ _ h => h) (Or.inl ⟨by rfl, ?_⟩) (by assumption) ?_
                  rotate_left
                  · (intro w hSw; (try dsimp only at hSw); first | (go_simp; done) | (go_simp; with_reducible rfl))
                  try simp only [Act.put, List.getElem_toArray, List.getElem_cons_zero, List.getElem_cons_succ, List.setIfInBounds_toArray, List.set_cons_zero, List.set_cons_succ]
                  refine wpAnyT_take (i := 33) (v := ?_) rfl (by kernel_rfl) (by kernel_rfl) (by kernel_rfl) (by kernel_rfl) (fun _ _ _ h => h) (Or.inl ⟨by rfl, ?_⟩) (by assumption) ?_
                  rotate_left
                  · (intro w hSw; (try dsimp only at hSw); first | (go_simp; done) | (go_simp; with_reducible rfl))
                  try simp only [Act.put, List.getElem_toArray, List.getElem_cons_zero, List.getElem_cons_succ, List.setIfInBounds_toArray, List.set_cons_zero, List.set_cons_succ]
                  refine wpAnyT_take (i := 34) (v := ?_) rfl (by kernel_rfl) (by kernel_rfl) (by kernel_rfl) (by kernel_rfl) (fun _ _ _ h => h) (Or.inl ⟨by rfl, ?_⟩) (by assumption) ?_
                  rotate_left
                  · (intro w hSw; (try dsimp only at hSw); first | (go_simp; done) | (go_simp; with_reducible rfl))
                  try simp only [Act.put, List.getElem_toArray, List.getElem_cons_zero, List.getElem_cons_succ, List.setIfInBounds_toArray, List.set_cons_zero, List.set_cons_succ]
                  refine wpAnyT_take (i := 35) (v := ?_) rfl (by kernel_rfl) (by kernel_rfl) (by kernel_rfl) (by kernel_rfl) (fun _ _ _ h => h) (Or.inl ⟨by rfl, ?_⟩) (by assumption) ?_
                  rotate_left
                  · (intro w hSw; (try dsimp only at hSw); first | (go_simp; done) | (go_simp; with_reducible rfl))
                  try simp only [Act.put, List.getElem_toArray, List.getElem_cons_zero, List.getElem_cons_succ, List.setIfInBounds_toArray, List.set_cons_zero, List.set_cons_succ]
                  refine wpAnyT_take (i := 36) (v := ?_) rfl (by kernel_rfl) (by kernel_rfl) (by kernel_rfl) (by kernel_rfl) (fun _ _ _ h => h) (Or.inl ⟨by rfl, ?_⟩) (by assumption) ?_
                  rotate_left
                  · (intro w hSw; (try dsimp only at hSw); first | (go_simp; done) | (go_simp; with_reducible rfl))
                  try simp only [Act.put, List.getElem_toArray, List.getElem_cons_zero, List.getElem_cons_succ, List.setIfInBounds_toArray, List.set_cons_zero, List.set_cons_succ]
                  refine wpAnyT_take (i := 37) (v := ?_) rfl (by kernel_rfl) (by kernel_rfl) (by kernel_rfl) (by kernel_rfl) (fun _ _ _ h => h) (Or.inl ⟨by rfl, ?_⟩) (by assumption) ?_
                  rotate_left
                  · (intro w hSw; (try dsimp only at hSw); first | (go_simp; done) | (go_simp; with_reducible rfl))
                  try simp only [Act.put, List.getElem_toArray, List.getElem_cons_zero, List.getElem_cons_succ, List.setIfInBounds_toArray, List.set_cons_zero, List.set_cons_succ]
                  refine wpAnyT_take (i := 38) (v := ?_) rfl (by kernel_rfl) (by kernel_rfl) (by kernel_rfl) (by kernel_rfl) (fun _ _ _ h => h) (Or.inl ⟨by rfl, ?_⟩) (by assumption) ?_
                  rotate_left
                  · (intro w hSw; (try dsimp only at hSw); first | (go_simp; done) | (go_simp; with_reducible rfl))
                  try simp only [Act.put, List.getElem_toArray, List.getElem_cons_zero, List.getElem_cons_succ, List.setIfInBounds_toArray, List.set_cons_zero, List.set_cons_succ]
                  clear hHeld
                  refine wpAnyT_step (i := 39) (by kernel_rfl) rfl (fun K hK => ?_)
                  (go_simp; refine (equalM_any AR R.length cR R (some ⟨bQ, oQ + 1, none⟩) (Q.length - 1) (cQ - 1) (Q.drop 1) W0 (HRW.out W0 hbD).1 (HRW.out W0 hbD).2).mono ?_; rintro e W1 ⟨rfl, hb1⟩; rw [HRQ.out]; have hbX := hbD.trans (hb1.mono hbD.size); clear hb1 hbD)
                  refine hK.out _ _ (HKS.out _ hbX) ?_
                  clear hK K
                  try simp only [Act.put, List.getElem_toArray, List.getElem_cons_zero, List.getElem_cons_succ, List.setIfInBounds_toArray, List.set_cons_zero, List.set_cons_succ]
                  have hHeld := HKS.out _ hbX
                  refine wpAnyT_take (i := 40) (v := ?_) rfl (by kernel_rfl) (by kernel_rfl) (by kernel_rfl) (by kernel_rfl) (fun _ _ _ h => h) (Or.inl ⟨by rfl, ?_⟩) (by assumption) ?_
                  rotate_left
                  · (intro w hSw; (try dsimp only at hSw); first | (go_simp; done) | (go_simp; with_reducible rfl))
                  try simp only [Act.put, List.getElem_toArray, List.getElem_cons_zero, List.getElem_cons_succ, List.setIfInBounds_toArray, List.set_cons_zero, List.set_cons_succ]
                  refine wpAnyT_take (i := 41) (v := ?_) rfl (by kernel_rfl) (by kernel_rfl) (by kernel_rfl) (by kernel_rfl) (fun _ _ _ h => h) (Or.inl ⟨by rfl, ?_⟩) (by assumption) ?_
                  rotate_left
                  · (intro w hSw; (try dsimp only at hSw); first | (go_simp; done) | (go_simp; with_reducible rfl))
                  try simp only [Act.put, List.getElem_toArray, List.getElem_cons_zero, List.getElem_cons_succ, List.setIfInBounds_toArray, List.set_cons_zero, List.set_cons_succ]
                  have HbX := Lib.hid hbX
                  clear hHeld hbX
                  refine wpAnyT_seq 42 (by omega) (by rfl) (by kernel_rfl) ?_
                  simp only [List.drop_succ_cons, List.drop_zero]
                  go_wp2_with fail
                  refine NoPanic.normal ?_
                  go_wp2_with fail
                  go_roundg (ks.length - (i + 1))
                  case measure => omega
                  case rel => exact ⟨i + 1, by omega, rfl, by simp, HbX.out⟩
                · have d5 : decide (i < ks.length) = false := by simpa using hin
                  have Hbw := Lib.hid (Hb12.out.trans (hbel.mono Hb12.out.size))
                  obtain ⟨wG, hwG⟩ : ∃ x, x = wr := ⟨_, rfl⟩
                  subst hwG
                  clear hbel
                  go_wp2_with fail
                  refine (works5_any wG).mono ?_
                  rintro e w8 ⟨rfl, hb8⟩
                  have Hb8 := Lib.hid (Hbw.out.trans (hb8.mono Hbw.out.size))
                  clear hb8
                  go_wp2_with fail
                  go_ret
                  exact ⟨by first | rfl | decide | simp, Hb8.out⟩
    · have d0 : (er != 0) = true := by simpa using h0
      clear hR h0
      go_wp2_with fail
      rw [Hw3.out]
      have Hbw := Hb3
      refine (works5_any w3).mono ?_
      rintro e w8 ⟨rfl, hb8⟩
      have Hb8 := Lib.hid (Hbw.out.trans (hb8.mono Hbw.out.size))
      clear hb8
      go_wp2_with fail
      go_ret
      exact ⟨by first | rfl | decide | simp, Hb8.out⟩

theorem walk_elimAgain (n : Int) (hn : -9223372036854775808 ≤ n ∧ n ≤ 9223372036854775807) (v1 : Value) (w : World) (h1 : IneqsIn w v1) (v2 : Value) (h2 : IntsIn w v2) :
    Calls Try.prog 11 #[.int .i64 n, v1, v2] w fun e w' => e = .returned (.bool true) ∧ Below w.heap.size w w' := by
  obtain ⟨A', nl, c', xs, rfl, hx, _⟩ := h1
  obtain ⟨A, m, c, us, rfl, h2⟩ := h2
  exact walkA_elimAgain n A' nl c' xs A m c us w hx h2

/-! ### the row's step -/
namespace elimAgain
set_option maxRecDepth 100000 in
theorem lifted (os : Os) (started : os.Started) (H : Type) (enc : TypeId × Value → H) :
    ReturnsInHanded {} Try.checked os 11 .any (Rows.elimAgainSpec.pre6 enc Try.prog Try.f11 Rows.elimAgainRow.domain false) (Rows.elimAgainSpec.post enc Try.prog Try.f11 false true false false) := by
  refine returnsInHanded_of_change_sized (C := Try.checked) own started (by kernel_rfl) Try.func11
    (ChangeSpec.witness6 (enc := enc) (C := Try.checked) false ⟨#[], #[.int .i64 0, .slice none 0 0, .slice none 0 0], []⟩ 8 (by kernel_rfl) (by kernel_rfl) (by kernel_rfl) (by kernel_rfl)) ?_
  intro W base args ds gs before hval0 hW hcnd hsz0 _
  have hsz : (DataW.weightsEach Try.prog (Try.f11.params.toList ++ Rows.elimAgainSpec.plain.varTypes Try.prog) (ds ++ gs)).all (· ≤ reachBytes) = true := hsz0
  have hval : ∀ (j : Nat) t v, Try.f11.params[j]? = some t → args[j]? = some v → Value.okWide Try.prog W .any base t v := hval0
  have hW' := hW
  obtain ⟨p, q, hA0, hV, rfl, hfz, hnd⟩ := hW
  have hA : DataW.TrodAll enc Try.prog W 0 (fun _ => true) true Try.f11.params.toList args.toList ds p := hA0
  rw [Try.params11] at hA hval hsz
  obtain ⟨v0, vs0, d0, ds0, p0, q0, hargs, rfl, rfl, h0, r_0⟩ := trodAll_cons hA
  obtain ⟨v1, vs1, d1, ds1, p1, q1, rfl, rfl, rfl, h1, r_1⟩ := trodAll_cons r_0
  obtain ⟨v2, vs2, d2, ds2, p2, q2, rfl, rfl, rfl, h2, r_2⟩ := trodAll_cons r_1
  obtain ⟨rfl, rfl, rfl⟩ := trodAll_nil r_2
  obtain rfl : args = #[v0, v1, v2] := by cases args; simp_all
  obtain ⟨rfl, rfl⟩ := trodVars_none hV
  obtain ⟨a0, rfl, _, _, w0⟩ := open_int Try.underlying3 (hval 0 3 v0 rfl rfl) h0
  have b0 := bounds_i64 w0
  have w1 := rd_ineqs (hval 1 35 v1 rfl rfl) h1
  have w2 := rd_intsI (hval 2 23 v2 rfl rfl) h2
  refine (walk_elimAgain (w := W) a0 b0 v1 w1 v2 w2).mono fun e W' ⟨he, bel⟩ => ?_
  subst he
  exact ⟨_, rfl, law_post laidOut (by kernel_rfl) rfl rfl Try.underlying4 hW' rfl rfl rfl bel⟩
theorem over : Rows.elimAgainRow.holds Try.pinned (OpenSpec.ofChange Rows.elimAgainSpec) :=
  OpenClaim.holds_of_wide 11 Try.f11 rfl rfl rfl rfl rfl rfl rfl ⟨rfl, rfl, rfl, rfl, rfl⟩ rfl rfl rfl rfl rfl (by kernel_rfl) Try.func11 (by kernel_rfl)
    (of_decide_eq_true (by kernel_rfl)) (by unfold Func.isWrapper; first | (rw [if_pos (by decide +kernel)]; kernel_rfl) | (rw [if_neg (by decide +kernel)]; exact ⟨rfl, rfl⟩))
    (fun os started H enc _ => lifted os started H enc)
/-- the statement -/
theorem proved : Rows.ElimAgainSaid := over
#print axioms proved
end elimAgain
end Go.Proofs.Ythabkpkgocafoaa
