/- ElimExact holds for every input: what a table lets be can be gone on to a solution, and each solution is let be. No conditions. -/
import Derived.Test.YthabkpkgocafoaaEaH
import Derived.Test.YthabkpkgocafoaaEaM
import Derived.Test.YthabkpkgocafoaaEaO
import Derived.Test.YthabkpkgocafoaaEaL
import Derived.Test.YthabkpkgocafoaaEaJ
import Derived.Deep.DeepCutAuto
import Derived.Deep.CutBlock
namespace Go.Proofs.Ythabkpkgocafoaa
set_option linter.unusedVariables false
set_option linter.unusedSimpArgs false
open Go.ChangeShapes Go.WideShapes Go.ChangeAt Go.RowKit

set_option maxRecDepth 100000 in
set_option maxHeartbeats 4000000 in
theorem walkA_elimExact (n : Int) (Al : Option Addr) (nl cl : Nat) (xs : List IneqD) (Ak : Option Addr) (nk ck : Nat) (keep : List Int) (Aa : Option Addr) (na ca : Nat) (asg : List Int) (Ab : Option Addr) (nb cb : Nat) (all : List Int) (w : World) (hx : IneqsV w w.heap.size Al nl cl xs) (hk : RdI .i64 w w.heap.size Ak nk ck keep) (ha : RdI .u8 w w.heap.size Aa na ca asg) (hall : RdI .u8 w w.heap.size Ab nb cb all) :
    Calls Try.prog 10 #[.int .i64 n, .slice Al nl cl, .slice Ak nk ck, .slice Aa na ca, .slice Ab nb cb] w fun e w' => e = .returned (.bool true) ∧ Below w.heap.size w w' := by
  have hxl := hx.len
  have hkl := hk.len
  have hal := ha.len
  have hbl := hall.len
  have na63 : na ≤ 9223372036854775807 := Nat.le_trans ha.2.1 ha.2.2
  have nb63 : nb ≤ 9223372036854775807 := Nat.le_trans hall.2.1 hall.2.2
  have Hx := Lib.hid hx
  have Hk := Lib.hid hk
  have Ha := Lib.hid ha
  have Hall := Lib.hid hall
  clear hx hk ha hall
  cases hG : great5 n nl nk with
  | true =>
    have HG := Lib.hid hG
    clear hG
    go_enter Try.func10, Try.ntmps10
    go_wp2_with fail
    refine (great5_any true n Al nl cl Ak nk ck w HG.out).mono ?_; rintro e w1 ⟨rfl, rfl⟩
    have Hbw := Lib.hid (Below.refl w.heap.size w)
    go_wp2_with fail
    refine (works5_any w).mono ?_
    rintro e w8 ⟨rfl, hb8⟩
    have Hb8 := Lib.hid (Hbw.out.trans (hb8.mono Hbw.out.size))
    clear hb8
    go_wp2_with fail
    go_ret
    exact ⟨by first | rfl | decide | simp, Hb8.out⟩
  | false =>
    obtain ⟨hn30, hl60, hk6⟩ := great5_no hG
    have HG := Lib.hid hG
    clear hG
    go_enter Try.func10, Try.ntmps10
    go_wp2_with fail
    refine (great5_any false n Al nl cl Ak nk ck w HG.out).mono ?_; rintro e w1 ⟨rfl, rfl⟩
    go_wp2_with fail
    refine (project_any n Al nl cl xs Ak nk ck keep w Hx.out Hk.out).mono ?_
    rintro e w2 ⟨v, t, er, rfl, hv, hR, hb2⟩
    obtain ⟨A1, c1, A2, c2, A3, c3, rfl, hq1, hq2, hq3⟩ := hv
    have hT := blk_new w2 #[.slice A1 t.low.length c1, .slice A2 t.up.length c2, .slice A3 t.pair.length c3] 50
    have hbT := below_box (w := w2) (Obj.cells #[.slice A1 t.low.length c1, .slice A2 t.up.length c2, .slice A3 t.pair.length c3] 50)
    have hv : TabV w2 w2.heap.size (.agg #[.slice A1 t.low.length c1, .slice A2 t.up.length c2, .slice A3 t.pair.length c3]) t := ⟨_, _, _, _, _, _, rfl, hq1, hq2, hq3⟩
    replace hv := hv.fresh hbT
    have hb3 := hb2.trans (hbT.mono hb2.size)
    obtain ⟨w3, hw3⟩ : ∃ x, w2.alloc (Obj.cells #[.slice A1 t.low.length c1, .slice A2 t.up.length c2, .slice A3 t.pair.length c3] 50) = x := ⟨_, rfl⟩
    rw [hw3] at hT hv hb3
    have Hw3 := Lib.hid hw3
    have Hb3 := Lib.hid hb3
    have HTV : Hid (∀ W, Below w3.heap.size w3 W → Blk W w2.heap.size 50 #[.slice A1 t.low.length c1, .slice A2 t.up.length c2, .slice A3 t.pair.length c3] ∧ TabV W W.heap.size (.agg #[.slice A1 t.low.length c1, .slice A2 t.up.length c2, .slice A3 t.pair.length c3]) t) := Lib.hid fun W hW => ⟨hT.below hW hT.lt, hv.fresh hW⟩
    have Hx3 := Lib.hid ((Hx.out.below hb3).more hb3.size)
    have Hk3 := Lib.hid ((Hk.out.below hb3).more hb3.size)
    have Ha3 := Lib.hid ((Ha.out.below hb3).more hb3.size)
    have Hall3 := Lib.hid ((Hall.out.below hb3).more hb3.size)
    clear hT hbT hv hb2 hb3 hw3 hq1 hq2 hq3 Hx Hall
    by_cases h0 : er = 0
    · subst h0
      obtain ⟨N, hN, htab⟩ := hR.table rfl
      subst hN
      have Htab := Lib.hid htab
      clear htab hR
      go_upto_region 6 with fail
      rw [Hw3.out]
      go_wp2_with fail
      refine (holds_any Al nl cl xs Ab nb cb all w3 Hx3.out Hall3.out).mono ?_
      rintro e w4 ⟨rfl, hb4⟩
      obtain ⟨hk4, hh4⟩ : ∃ z, (holdsAll all xs).1 = z := ⟨_, rfl⟩
      obtain ⟨hf4, hg4⟩ : ∃ z, (holdsAll all xs).2 = z := ⟨_, rfl⟩
      rw [hh4, hg4]
      have Hh4 := Lib.hid hh4
      obtain ⟨P, hP⟩ : ∃ P, (decide (hf4 = 0) && decide (hk4 < 0) && decide ((nb : Int) = N)) = P := ⟨_, rfl⟩
      have HP := Lib.hid hP
      have Hb4 := Lib.hid hb4
      clear hh4 hg4 hP hb4
      go_upto_region 7 with fail
      go_cut [60] (fun s60 wx => s60 = .bool P ∧ wx = w4)
      case first =>
        by_cases h1 : hf4 = 0
        · have e1 : (hf4 == 0) = true := by simp [h1]
          by_cases h2 : hk4 < 0
          · have e2 : decide (hk4 < 0) = true := by simpa using h2
            have e3 : ((nb : Int) == (N : Int)) = P := by rw [← HP.out]; simp [h1, h2]; rfl
            clear h1 h2
            go_wp2_with fail
            go_meet
            exact ⟨by first | rfl | (rw [e3]), rfl⟩
          · have e2 : decide (hk4 < 0) = false := by simpa using h2
            obtain rfl : P = false := by rw [← HP.out]; simp [h2]
            clear h1 h2
            go_wp2_with fail
            go_meet
            exact ⟨rfl, rfl⟩
        · have e1 : (hf4 == 0) = false := by simp [h1]
          obtain rfl : P = false := by rw [← HP.out]; simp [h1]
          clear h1
          go_wp2_with fail
          go_meet
          exact ⟨rfl, rfl⟩
      case rest =>
        obtain ⟨rfl, hwc⟩ := hcut
        subst hwc
        obtain ⟨w5, hw5⟩ : ∃ x, x = wc := ⟨_, rfl⟩
        subst hw5
        have Hb5 := Lib.hid (Hb3.out.trans (Hb4.out.mono Hb3.out.size))
        have Hk5 := Lib.hid ((Hk3.out.below Hb4.out).more Hb4.out.size)
        have Hall5 := Lib.hid ((Hall3.out.below Hb4.out).more Hb4.out.size)
        have HN : Hid (N ≤ 30) := Lib.hid (by omega)
        go_upto_if 60 with fail
        go_cut [] (fun wx => Below w5.heap.size w5 wx)
        case first =>
          cases P with
          | false =>
            go_wp2_with fail
            go_meet
            exact Below.refl _ _
          | true =>
            have hp := HP.out
            simp only [Bool.and_eq_true, decide_eq_true_eq] at hp
            obtain ⟨⟨hz0, hk0⟩, hnb⟩ := hp
            have hnb2 : N ≤ nb := by omega
            have Hown : Hid (noneB (ownA keep all) = false → LetsA keep.length t (ownA keep all)) := Lib.hid fun hn => exact_fore Htab.out (by omega) (by rw [Hh4.out]; exact hk0) hn
            have hol : (ownA keep all).length = nk := by simp [ownA, hkl]
            have Hol := Lib.hid hol
            have Hnat := Lib.hid Htab.out.nat
            have Hnn := Lib.hid fun v hv => (Htab.out.keeps.1 v hv).1
            have nk63 : nk ≤ 9223372036854775807 := by omega
            clear hz0 hk0 hnb hol
            go_wp2_with fail
            go_loopg [15, 63] nk (fun gh s15 i wr => ∃ (k : Nat) (A : Option Addr) (c : Nat), k ≤ nk ∧ gh = nk - k ∧ s15 = .slice A k c ∧ i = .int .i64 (k : Nat) ∧ wr.ownsRow w5.heap.size 27 1 (.slice A k c) k (((ownA keep all).take k).map (Value.int .u8)) ∧ Below w5.heap.size w5 wr)
            case atStart => exact ⟨0, none, 0, Nat.zero_le _, rfl, rfl, rfl, by simpa using World.ownsRow_nil _ _ _ _, Below.refl _ _⟩
            case round =>
              obtain ⟨k, A, c, hk, rfl, rfl, rfl, hown, hbel⟩ := hrel
              have Hrow := Lib.hid hown
              have Hbel := Lib.hid hbel
              clear hown hbel
              by_cases hkn : k < nk
              · have d0 : decide (k < nk) = true := by simpa using hkn
                have hk' : k < keep.length := by omega
                obtain ⟨b, off, rfl, _, hc⟩ := (Hk5.out.below Hbel.out).at_ (by omega)
                have e0 := hc k hk'
                have hu : keep[k] = (((keep.map Int.toNat).getD k 0 : Nat) : Int) := by
                  rw [List.getD_eq_getElem?_getD, List.getElem?_map, List.getElem?_eq_getElem hk']
                  exact (Int.toNat_of_nonneg (Hnn.out _ (List.getElem_mem hk'))).symm
                rw [hu] at e0
                have huN : (keep.map Int.toNat).getD k 0 < N := keep_lt Hnat.out (by simpa using hk')
                have hcv : (ownA keep all).getD k 0 = all.getD ((keep.map Int.toNat).getD k 0) 0 := map_getD (by simpa using hk')
                obtain ⟨u, hue⟩ : ∃ u, (keep.map Int.toNat).getD k 0 = u := ⟨_, rfl⟩
                rw [hue] at e0 huN hcv
                have hu' : u < all.length := by omega
                obtain ⟨b2, off2, rfl, _, hc2⟩ := (Hall5.out.below Hbel.out).at_ (by omega)
                have e1 := hc2 u hu'
                rw [← getD_at hu', ← hcv] at e1
                obtain ⟨cv, hce⟩ : ∃ cv, (ownA keep all).getD k 0 = cv := ⟨_, rfl⟩
                rw [hce] at e1
                have HCv : Hid ((ownA keep all).take (k + 1) = (ownA keep all).take k ++ [cv]) := Lib.hid (by rw [take_snoc (d := 0) (by rw [Hol.out]; exact hkn), hce])
                have i1 : (0 : Int) ≤ (k : Int) := by omega
                have i2 : (k : Int) < nk := by omega
                have i3 : (0 : Int) ≤ (u : Int) := by omega
                have i4 : (u : Int) < nb := by omega
                have Hb9 := Lib.hid (Hbel.out.alloc Hbel.out.size (Obj.cells #[.int .u8 cv] 27))
                obtain ⟨i0, hi0, hz0, hz1, hz2⟩ := info_parts multInfo
                clear hc hc2 hu hue hcv hce hu' huN
                go_wp2_with (at_builtin; refine wpList_append_rd _ rfl (.tmp 67) (.tmp 72) 22 rfl w5.heap.size 27 i0 _ 1 1 Try.underlying22 hi0 hz0 hz1 hz2 rfl (by omega) (.slice A k c) k (((ownA keep all).take k).map (Value.int .u8)) rfl (Hrow.out.alloc _) (wr.heap.size + 1) (some ⟨wr.heap.size, 0, none⟩) 1 1 [.int .u8 cv] rfl (rd_new1 _ _ _) (by intro x hx; simp at hx; subst hx; rfl) (by unfold maxLen; omega) (by omega) Hb9.out.size ?_; intro v7 w7 ho7 hg7 hat7; obtain ⟨A7, c7, rfl⟩ := ownsRow_form ho7)
                have hb7 := Hb9.out.grown hg7 Hb9.out.size (fun b' hb' => (ownsRow_lt (Hrow.out.alloc (Obj.cells #[.int .u8 cv] 27)) hb').1)
                go_roundg (nk - (k + 1))
                case measure => omega
                case rel => exact ⟨k + 1, A7, c7, by omega, rfl, rfl, by simp, by rw [HCv.out, List.map_append]; exact ho7, hb7⟩
              · have d0 : decide (k < nk) = false := by simpa using hkn
                obtain ⟨k9, rfl⟩ : ∃ k9, k9 = k := ⟨_, rfl⟩
                have hk9 : nk = k9 := by omega
                subst hk9
                have hown := RdI.of_own Hrow.out
                rw [List.take_of_length_le (by rw [Hol.out]; exact Nat.le_refl _)] at hown
                obtain ⟨r, hr⟩ : ∃ r, noneB (ownA keep all) = r := ⟨_, rfl⟩
                have Hnone := Lib.hid (noneX_any hr A nk c wr wr.heap.size hown)
                have Hr := Lib.hid hr
                have Hrd := Lib.hid hown
                obtain ⟨hT5, hv5⟩ := HTV.out wr (Hb4.out.trans (Hbel.out.mono Hb4.out.size))
                have x0 := hT5.cell 0
                have x1 := hT5.cell 1
                have x2 := hT5.cell 2
                simp only [List.getElem?_toArray, List.getElem?_cons_zero, List.getElem?_cons_succ] at x0 x1 x2
                have Hv5 := Lib.hid hv5
                clear hr hown hT5 hv5
                cases r with
                | true =>
                  go_wp2_with fail
                  refine Hnone.out.mono ?_; rintro e wZ ⟨rfl, rfl⟩
                  go_wp2_with fail
                  go_meet
                  exact Hbel.out
                | false =>
                  have Hlets := Lib.hid (Hown.out Hr.out)
                  go_wp2_with fail
                  refine Hnone.out.mono ?_; rintro e wZ ⟨rfl, rfl⟩
                  go_wp2_with fail
                  refine (tabLets_any Htab.out.ok_ _ A nk c (ownA keep all) wr Hv5.out Hrd.out).mono ?_
                  rintro e wY ⟨q, rfl, hq, hbY⟩
                  obtain rfl := hq.2 Hlets.out
                  have HbY := Lib.hid (Hbel.out.trans (hbY.mono Hbel.out.size))
                  clear hq hbY
                  go_wp2_with fail
                  go_meet
                  exact HbY.out
        case rest =>
          obtain ⟨w6, hw6⟩ : ∃ x, x = wc := ⟨_, rfl⟩
          subst hw6
          have hb46 := Hb4.out.trans (hcut.mono Hb4.out.size)
          have Hb6 := Lib.hid (Hb3.out.trans (hb46.mono Hb3.out.size))
          have Hx6 := Lib.hid ((Hx3.out.below hb46).more hb46.size)
          have Hk6 := Lib.hid ((Hk3.out.below hb46).more hb46.size)
          have Ha6 := Lib.hid ((Ha3.out.below hb46).more hb46.size)
          obtain ⟨hT5, hv5⟩ := HTV.out w6 hb46
          have x0 := hT5.cell 0
          have x1 := hT5.cell 1
          have x2 := hT5.cell 2
          simp only [List.getElem?_toArray, List.getElem?_cons_zero, List.getElem?_cons_succ] at x0 x1 x2
          have Hv5 := Lib.hid hv5
          clear hT5 hv5 hb46 hcut
          go_wp2_with fail
          refine (tabLets_any Htab.out.ok_ _ Aa na ca asg w6 Hv5.out Ha6.out).mono ?_
          rintro e w7 ⟨q, rfl, hq, hb7⟩
          have hb7' := Hb6.out.trans (hb7.mono Hb6.out.size)
          cases q with
          | false =>
            have Hbw := Lib.hid hb7'
            clear hq hb7 hb7' x0 x1 x2
            go_wp2_with fail
            refine (works5_any w7).mono ?_
            rintro e w8 ⟨rfl, hb8⟩
            have Hb8 := Lib.hid (Hbw.out.trans (hb8.mono Hbw.out.size))
            clear hb8
            go_wp2_with fail
            go_ret
            exact ⟨by first | rfl | decide | simp, Hb8.out⟩
          | true =>
            have Hlets := Lib.hid (hq.1 rfl)
            have hna : na = nk := by have := Hlets.out.1; omega
            have Hb7 := Lib.hid hb7'
            have Hx7 := Lib.hid ((Hx6.out.below hb7).more hb7.size)
            have Hk7 := Lib.hid ((Hk6.out.below hb7).more hb7.size)
            have Ha7 := Lib.hid ((Ha6.out.below hb7).more hb7.size)
            have n63 : N ≤ 9223372036854775807 := by have := HN.out; omega
            clear hq hb7 hb7' x0 x1 x2
            have hOne := blk_new w7 #[.int .u8 1] 27
            have hbx := below_box (w := w7) (Obj.cells #[.int .u8 1] 27)
            go_wp2_with fail
            refine (repeat_mult (.int .u8 1) rfl N (by have := HN.out; omega) ⟨w7.heap.size, 0, none⟩ 1 _ (hOne.cell 0) hOne.lt).mono ?_
            rintro e w8 ⟨gL, rfl, hkL, hgL, hbL⟩
            have hb8 := hbx.trans (hbL.mono hbx.size)
            have Hb8 := Lib.hid (Hb7.out.trans (hb8.mono Hb7.out.size))
            have Hx8 := Lib.hid ((Hx7.out.below hb8).more hb8.size)
            have Hk8 := Lib.hid ((Hk7.out.below hb8).more hb8.size)
            have Ha8 := Lib.hid ((Ha7.out.below hb8).more hb8.size)
            have HL8 : Hid (Blk w8 gL 27 ((setE (List.replicate N 1) (keep.map Int.toNat) asg 0).map (Value.int .u8)).toArray) := Lib.hid (by show Blk w8 gL _ ((List.replicate N (1 : Int)).map (Value.int .u8)).toArray; rw [List.map_replicate]; exact hkL)
            have hgw : w7.heap.size ≤ gL := by have := hbx.size; omega
            clear hOne hbx hkL hgL hbL hb8
            go_wp2_with fail
            refine (cloneQ_any Al nl cl xs w8 Hx8.out (by omega)).mono ?_
            rintro e w9 ⟨Am, cm, rfl, hown9, hb9⟩
            have Hb9 := Lib.hid (Hb8.out.trans (hb9.mono Hb8.out.size))
            have Hk9 := Lib.hid ((Hk8.out.below hb9).more hb9.size)
            have Ha9 := Lib.hid ((Ha8.out.below hb9).more hb9.size)
            have hgL8 : gL < w8.heap.size := HL8.out.lt
            have HL9 := Lib.hid (HL8.out.below hb9 hgL8)
            have Hown9 := Lib.hid hown9
            have hs89 := hb9.size
            have hwg : w.heap.size ≤ gL := by have := Hb7.out.size; omega
            have Hnat := Lib.hid Htab.out.nat
            have Hnn := Lib.hid fun v hv => (Htab.out.keeps.1 v hv).1
            have Hkl : Hid ((keep.map Int.toNat).length = nk) := Lib.hid (by simp [hkl])
            clear hown9 hb9 hgw
            go_wp2_with fail
            go_loopg [20, 97] nk (fun gh s20 i wr => ∃ (k : Nat) (A : Option Addr) (c : Nat), k ≤ nk ∧ gh = nk - k ∧ s20 = .slice A (nl + k) c ∧ i = .int .i64 (k : Nat) ∧ Blk wr gL 27 ((setE (List.replicate N 1) (keep.map Int.toNat) asg k).map (Value.int .u8)).toArray ∧ wr.ownsRow w8.heap.size 31 4 (.slice A (nl + k) c) (nl + k) (cellsQ (xs ++ (freeE (keep.map Int.toNat) asg).take k)) ∧ w9.heap.size ≤ wr.heap.size ∧ Below w.heap.size w wr)
            case atStart => exact ⟨0, Am, cm, Nat.zero_le _, rfl, rfl, rfl, HL9.out, by simpa using Hown9.out, Nat.le_refl _, Hb9.out⟩
            case round =>
              obtain ⟨k, A, c, hk, rfl, rfl, rfl, hL, hown, hsz9, hbel⟩ := hrel
              have HL := Lib.hid hL
              have Hrow := Lib.hid hown
              have Hbel := Lib.hid hbel
              clear hL hown hbel HL9 Hown9
              by_cases hkn : k < nk
              · have d0 : decide (k < nk) = true := by simpa using hkn
                have d1 : decide ((k : Int) ≥ na) = false := by simp; omega
                have hk' : k < keep.length := by omega
                have hbW : Below w9.heap.size w9 wr ∨ True := .inr trivial
                obtain ⟨b, off, rfl, hb1, hc⟩ := Hk.out.at_ (by omega)
                have q0 := hc k hk'
                have hu : keep[k] = (((keep.map Int.toNat).getD k 0 : Nat) : Int) := by
                  rw [List.getD_eq_getElem?_getD, List.getElem?_map, List.getElem?_eq_getElem hk']
                  exact (Int.toNat_of_nonneg (Hnn.out _ (List.getElem_mem hk'))).symm
                rw [hu] at q0
                have huN : (keep.map Int.toNat).getD k 0 < N := keep_lt Hnat.out (by simpa using hk')
                have Htk := Lib.hid (free_take (kn := keep.map Int.toNat) (a := asg) (k := k) (by rw [Hkl.out]; exact hkn))
                have ha' : k < asg.length := by omega
                obtain ⟨b2, off2, rfl, hb2, hc2⟩ := Ha.out.at_ (by omega)
                have q1 := hc2 k ha'
                rw [← getD_at ha'] at q1
                obtain ⟨m, hm⟩ : ∃ m, asg.getD k 0 = m := ⟨_, rfl⟩
                obtain ⟨u, hue⟩ : ∃ u, (keep.map Int.toNat).getD k 0 = u := ⟨_, rfl⟩
                have hset : (setE (List.replicate N 1) (keep.map Int.toNat) asg k).set u m = setE (List.replicate N 1) (keep.map Int.toNat) asg (k + 1) := by rw [← hue, ← hm]; rfl
                rw [hue] at q0 huN
                rw [hm] at q1
                have Hset := Lib.hid hset
                have Hue := Lib.hid hue
                have Hm := Lib.hid hm
                have E1 := Lib.hid q1
                have e0 : wr.cell? ⟨b, off + k, none⟩ = some (.int .i64 (u : Nat)) := (Hbel.out.cell (p := ⟨b, off + k, none⟩) hb1).trans q0
                have e1 : wr.cell? ⟨b2, off2 + k, none⟩ = some (.int .u8 m) := (Hbel.out.cell (p := ⟨b2, off2 + k, none⟩) hb2).trans q1
                have i1 : (0 : Int) ≤ (k : Int) := by omega
                have i2 : (k : Int) < nk := by omega
                have i2a : (k : Int) < na := by omega
                have i3 : (0 : Int) ≤ (u : Int) := by omega
                have i4 : (u : Int) < N := by omega
                obtain ⟨i0, hi0, hz0, hz1, hz2⟩ := info_parts ineqInfo
                clear hc hc2 hu hue hm hset q0 q1 hbW
                go_upto_region 26 with fail
                refine wp_region_noPanic ?_
                refine wp_region_T (fun w' => w'.cell? ⟨b2, off2 + k, none⟩ = some (.int .u8 m)) 15 (by kernel_rfl) e1 (fun hHeld => ?_)
                have hLD : Blk wr.drew gL 27 ((setE (List.replicate N 1) (keep.map Int.toNat) asg k).map (Value.int .u8)).toArray := HL.out
                have hoD : wr.drew.ownsRow w8.heap.size 31 4 (.slice A (nl + k) c) (nl + k) (cellsQ (xs ++ (freeE (keep.map Int.toNat) asg).take k)) := Hrow.out
                have hbD := Below.drew Hbel.out
                have hsD : w9.heap.size ≤ wr.drew.heap.size := hsz9
                clear e0 e1
                generalize wr.drew = W0 at hHeld hLD hoD hbD hsD ⊢
                refine wpAnyT_takeC (i := 0) (v := ?_) rfl (by kernel_rfl) (by kernel_rfl) (by kernel_rfl) (by kernel_rfl) (by kernel_rfl) (fun _ _ _ h => h) (Or.inl ⟨by rfl, ?_⟩) (by assumption) ?_
                rotate_left
                · (intro w hSw; (try dsimp only at hSw); first | (go_simp; done) | (go_simp; with_reducible rfl))
                try simp only [Act.put, List.getElem_toArray, List.getElem_cons_zero, List.getElem_cons_succ, List.setIfInBounds_toArray, List.set_cons_zero, List.set_cons_succ]
                refine wpAnyT_takeC (i := 1) (v := ?_) rfl (by kernel_rfl) (by kernel_rfl) (by kernel_rfl) (by kernel_rfl) (by kernel_rfl) (fun _ _ _ h => h) (Or.inl ⟨by rfl, ?_⟩) (by assumption) ?_
                rotate_left
                · (intro w hSw; (try dsimp only at hSw); first | (go_simp; done) | (go_simp; with_reducible rfl))
                try simp only [Act.put, List.getElem_toArray, List.getElem_cons_zero, List.getElem_cons_succ, List.setIfInBounds_toArray, List.set_cons_zero, List.set_cons_succ]
                refine wpAnyT_takeC (i := 2) (v := ?_) rfl (by kernel_rfl) (by kernel_rfl) (by kernel_rfl) (by kernel_rfl) (by kernel_rfl) (fun _ _ _ h => h) (Or.inl ⟨by rfl, ?_⟩) (by assumption) ?_
                rotate_left
                · (intro w hSw; (try dsimp only at hSw); first | (go_simp; done) | (go_simp; with_reducible rfl))
                try simp only [Act.put, List.getElem_toArray, List.getElem_cons_zero, List.getElem_cons_succ, List.setIfInBounds_toArray, List.set_cons_zero, List.set_cons_succ]
                refine wpAnyT_takeC (i := 3) (v := ?_) rfl (by kernel_rfl) (by kernel_rfl) (by kernel_rfl) (by kernel_rfl) (by kernel_rfl) (fun _ _ _ h => h) (Or.inl ⟨by rfl, ?_⟩) (by assumption) ?_
                rotate_left
                · (intro w hSw; (try dsimp only at hSw); first | (go_simp; done) | (go_simp; with_reducible rfl))
                try simp only [Act.put, List.getElem_toArray, List.getElem_cons_zero, List.getElem_cons_succ, List.setIfInBounds_toArray, List.set_cons_zero, List.set_cons_succ]
                refine wpAnyT_takeC (i := 4) (v := ?_) rfl (by kernel_rfl) (by kernel_rfl) (by kernel_rfl) (by kernel_rfl) (by kernel_rfl) (fun _ _ _ h => h) (Or.inl ⟨by rfl, ?_⟩) (by assumption) ?_
                rotate_left
                · (intro w hSw; (try dsimp only at hSw); first | (go_simp; done) | (go_simp; with_reducible rfl))
                try simp only [Act.put, List.getElem_toArray, List.getElem_cons_zero, List.getElem_cons_succ, List.setIfInBounds_toArray, List.set_cons_zero, List.set_cons_succ]
                refine wpAnyT_takeC (i := 5) (v := ?_) rfl (by kernel_rfl) (by kernel_rfl) (by kernel_rfl) (by kernel_rfl) (by kernel_rfl) (fun _ _ _ h => h) (Or.inl ⟨by rfl, ?_⟩) (by assumption) ?_
                rotate_left
                · (intro w hSw; (try dsimp only at hSw); first | (go_simp; done) | (go_simp; with_reducible rfl))
                try simp only [Act.put, List.getElem_toArray, List.getElem_cons_zero, List.getElem_cons_succ, List.setIfInBounds_toArray, List.set_cons_zero, List.set_cons_succ]
                refine wpAnyT_takeC (i := 6) (v := ?_) rfl (by kernel_rfl) (by kernel_rfl) (by kernel_rfl) (by kernel_rfl) (by kernel_rfl) (fun _ _ _ h => h) (Or.inl ⟨by rfl, ?_⟩) (by assumption) ?_
                rotate_left
                · (intro w hSw; (try dsimp only at hSw); first | (go_simp; done) | (go_simp; with_reducible rfl))
                try simp only [Act.put, List.getElem_toArray, List.getElem_cons_zero, List.getElem_cons_succ, List.setIfInBounds_toArray, List.set_cons_zero, List.set_cons_succ]
                refine wpAnyT_takeC (i := 7) (v := ?_) rfl (by kernel_rfl) (by kernel_rfl) (by kernel_rfl) (by kernel_rfl) (by kernel_rfl) (fun _ _ _ h => h) (Or.inl ⟨by rfl, ?_⟩) (by assumption) ?_
                rotate_left
                · (intro w hSw; (try dsimp only at hSw); first | (go_simp; done) | (go_simp; with_reducible rfl))
                try simp only [Act.put, List.getElem_toArray, List.getElem_cons_zero, List.getElem_cons_succ, List.setIfInBounds_toArray, List.set_cons_zero, List.set_cons_succ]
                refine wpAnyT_takeC (i := 8) (v := ?_) rfl (by kernel_rfl) (by kernel_rfl) (by kernel_rfl) (by kernel_rfl) (by kernel_rfl) (fun _ _ _ h => h) (Or.inl ⟨by rfl, ?_⟩) (by assumption) ?_
                rotate_left
                · (intro w hSw; (try dsimp only at hSw); first | (go_simp; done) | (go_simp; with_reducible rfl))
                try simp only [Act.put, List.getElem_toArray, List.getElem_cons_zero, List.getElem_cons_succ, List.setIfInBounds_toArray, List.set_cons_zero, List.set_cons_succ]
                refine wpAnyT_takeC (i := 9) (v := ?_) rfl (by kernel_rfl) (by kernel_rfl) (by kernel_rfl) (by kernel_rfl) (by kernel_rfl) (fun _ _ _ h => h) (Or.inl ⟨by rfl, ?_⟩) (by assumption) ?_
                rotate_left
                · (intro w hSw; (try dsimp only at hSw); first | (go_simp; done) | (go_simp; with_reducible rfl))
                try simp only [Act.put, List.getElem_toArray, List.getElem_cons_zero, List.getElem_cons_succ, List.setIfInBounds_toArray, List.set_cons_zero, List.set_cons_succ]
                refine wpAnyT_takeC (i := 10) (v := ?_) rfl (by kernel_rfl) (by kernel_rfl) (by kernel_rfl) (by kernel_rfl) (by kernel_rfl) (fun _ _ _ h => h) (Or.inl ⟨by rfl, ?_⟩) (by assumption) ?_
                rotate_left
                · (intro w hSw; (try dsimp only at hSw); first | (go_simp; done) | (go_simp; with_reducible rfl))
                try simp only [Act.put, List.getElem_toArray, List.getElem_cons_zero, List.getElem_cons_succ, List.setIfInBounds_toArray, List.set_cons_zero, List.set_cons_succ]
                refine wpAnyT_takeC (i := 11) (v := ?_) rfl (by kernel_rfl) (by kernel_rfl) (by kernel_rfl) (by kernel_rfl) (by kernel_rfl) (fun _ _ _ h => h) (Or.inl ⟨by rfl, ?_⟩) (by assumption) ?_
                rotate_left
                · (intro w hSw; (try dsimp only at hSw); first | (go_simp; done) | (go_simp; with_reducible rfl))
                try simp only [Act.put, List.getElem_toArray, List.getElem_cons_zero, List.getElem_cons_succ, List.setIfInBounds_toArray, List.set_cons_zero, List.set_cons_succ]
                clear hHeld
                refine wpAnyT_step (i := 12) (by kernel_rfl) rfl (fun K hK => ?_)
                (go_simp; refine (below5_any u m (-1) W0).mono ?_; rintro e W1 ⟨rfl, hb1'⟩; have hbX := hbD.trans (hb1'.mono hbD.size))
                refine hK.out _ _ ((hbX.cell (p := ⟨b2, off2 + k, none⟩) hb2).trans E1.out) ?_
                clear hK K
                try simp only [Act.put, List.getElem_toArray, List.getElem_cons_zero, List.getElem_cons_succ, List.setIfInBounds_toArray, List.set_cons_zero, List.set_cons_succ]
                have hL1 := hLD.below hb1' hLD.lt
                have ho1 := ownsRow_beyond hoD hb1'
                have hs1 : w9.heap.size ≤ W1.heap.size := Nat.le_trans hsD hb1'.size
                have hb9 := hbX.alloc hbX.size (Obj.cells #[.int .i64 (u : Nat), .int .u8 0, .int .u8 m, .int .i64 (-1)] 31)
                have Hb9x := Lib.hid hb9
                have Ho9 := Lib.hid (ho1.alloc (Obj.cells #[.int .i64 (u : Nat), .int .u8 0, .int .u8 m, .int .i64 (-1)] 31))
                have HL9 := Lib.hid (hL1.alloc (Obj.cells #[.int .i64 (u : Nat), .int .u8 0, .int .u8 m, .int .i64 (-1)] 31))
                have hsz : (W1.alloc (Obj.cells #[.int .i64 (u : Nat), .int .u8 0, .int .u8 m, .int .i64 (-1)] 31)).heap.size = W1.heap.size + 1 := by simp
                have Hsz := Lib.hid hsz
                clear hLD hoD hbD hsD hb1' hL1 ho1 hb9 hsz hbX
                refine wpAnyT_step (i := 13) (by kernel_rfl) rfl (fun K hK => ?_)
                go_simp
                refine hK.out _ _ ((Hb9x.out.cell (p := ⟨b2, off2 + k, none⟩) hb2).trans E1.out) ?_
                clear hK K
                try simp only [Act.put, List.getElem_toArray, List.getElem_cons_zero, List.getElem_cons_succ, List.setIfInBounds_toArray, List.set_cons_zero, List.set_cons_succ]
                refine wpAnyT_step (i := 14) (by kernel_rfl) rfl (fun K hK => ?_)
                (refine step_append_rd _ (by rfl) (.tmp 112) (.tmp 119) 35 (by rfl) w8.heap.size 31 i0 _ 4 32 Try.underlying35 hi0 hz0 hz1 hz2 rfl (by omega) (.slice A (nl + k) c) (nl + k) (cellsQ (xs ++ (freeE (keep.map Int.toNat) asg).take k)) (by rfl) Ho9.out (W1.heap.size + 1) (some ⟨W1.heap.size, 0, none⟩) 1 1 (cellsQ [⟨(u : Nat), 0, m, -1⟩]) (by rfl) (rd_newq _ ⟨(u : Nat), 0, m, -1⟩ _) (cellsQ_one _) (by unfold maxLen; omega) (by omega) (by have := Hsz.out; omega) ?_; intro v7 wV ho7 hg7 hat7; obtain ⟨A7, c7, rfl⟩ := ownsRow_form ho7; have hb7 := Hb9x.out.grown hg7 Hb9x.out.size (fun b' hb' => by have := (ownsRow_lt Ho9.out hb').1; have := Hb8.out.size; omega); have hL7 := HL9.out.grown hg7 (fun e => by have := (ownsRow_lt Ho9.out e.symm).1; omega))
                refine hK.out _ _ ((hb7.cell (p := ⟨b2, off2 + k, none⟩) hb2).trans E1.out) ?_
                clear hK K
                try simp only [Act.put, List.getElem_toArray, List.getElem_cons_zero, List.getElem_cons_succ, List.setIfInBounds_toArray, List.set_cons_zero, List.set_cons_succ]
                have hs7 : w9.heap.size ≤ wV.heap.size := by have := hg7.size; have := Hsz.out; omega
                have hsl : (setE (List.replicate N 1) (keep.map Int.toNat) asg k).length = N := by rw [setE_len]; simp
                have k3 : wV.cell? ⟨gL, u, none⟩ = some (.int .u8 ((setE (List.replicate N 1) (keep.map Int.toNat) asg k)[u]'(by rw [hsl]; exact huN))) := by
                  rw [hL7.cell u]; simp
                generalize ((setE (List.replicate N 1) (keep.map Int.toNat) asg k)[u]'(by rw [hsl]; exact huN)) = z at k3
                have k4 := hL7.frozen u
                have hst := blk_set hL7 u m
                rw [Hset.out] at hst
                have hst2 := hb7.setCell (p := ⟨gL, u, none⟩) hwg (.int .u8 m)
                have hst3 : (wV.setCell ⟨gL, u, none⟩ (.int .u8 m)).ownsRow w8.heap.size 31 4 (.slice A7 (nl + k + 1) c7) (nl + k + 1) (cellsQ (xs ++ (freeE (keep.map Int.toNat) asg).take (k + 1))) := ownsRow_setCell_below (by rw [Htk.out, Hue.out, Hm.out, ← List.append_assoc, cellsQ_append]; exact ho7) (a := ⟨gL, u, none⟩) hgL8 _
                have hst4 : w9.heap.size ≤ (wV.setCell ⟨gL, u, none⟩ (.int .u8 m)).heap.size := by simpa [World.setCell] using hs7
                have Hst := Lib.hid hst
                have Hst2 := Lib.hid hst2
                have Hst3 := Lib.hid hst3
                have Hst4 := Lib.hid hst4
                clear hst hst2 hst3 hst4 ho7 hg7 hat7 hb7 hL7 hs7 hsl huN
                refine wpAnyT_seq 15 (by omega) (by rfl) (by kernel_rfl) ?_
                simp only [List.drop_succ_cons, List.drop_zero]
                go_wp2_with fail
                refine NoPanic.normal ?_
                go_wp2_with fail
                go_roundg (nk - (k + 1))
                case measure => omega
                case rel => exact ⟨k + 1, A7, c7, by omega, rfl, rfl, by simp, Hst.out, Hst3.out, Hst4.out, Hst2.out⟩
              · have d0 : decide (k < nk) = false := by simpa using hkn
                obtain ⟨k9, rfl⟩ : ∃ k9, k9 = k := ⟨_, rfl⟩
                have hk9 : nk = k9 := by omega
                subst hk9
                have hsl : (setE (List.replicate N 1) (keep.map Int.toNat) asg nk).length = N := by rw [setE_len]; simp
                have hlow := rdM_blk HL.out hsl (by have := HN.out; unfold maxLen; omega)
                have hmore : IneqsV wr wr.heap.size A (nl + nk) c (xs ++ freeE (keep.map Int.toNat) asg) := by
                  have := IneqsV.of_own4 (by have := Hrow.out; rwa [List.take_of_length_le (by rw [free_len, Hkl.out]; exact Nat.le_refl _)] at this)
                  exact this
                have Hlow := Lib.hid hlow
                have Hmore := Lib.hid hmore
                obtain ⟨wE, hwE⟩ : ∃ x, x = wr := ⟨_, rfl⟩
                subst hwE
                clear hsl hlow hmore HL Hrow
                go_wp2_with fail
                refine (solve_any N _ _ _ _ _ _ _ _ wE Hlow.out Hmore.out).mono ?_
                rintro e wF ⟨A4, m4, c4, A5, m5, c5, a, core, er, rfl, hra, hrc, hS, hbF⟩
                obtain ⟨h0, hlenN, hat⟩ := exact_back Htab.out (by have := HN.out; omega) (by omega) (by omega) Hlets.out (by rw [hkl]; exact hS)
                subst h0
                have hm4 : N = m4 := by have := hra.len; omega
                subst hm4
                have HbF := Lib.hid (Hbel.out.trans (hbF.mono Hbel.out.size))
                have Hra := Lib.hid hra
                have Hat := Lib.hid hat
                have HlenN := Lib.hid hlenN
                clear hra hrc hS hbF hat hlenN
                go_wp2_with fail
                go_loopg [135] nk (fun gh i wr => ∃ k : Nat, k ≤ nk ∧ gh = nk - k ∧ i = .int .i64 (k : Nat) ∧ Below wF.heap.size wF wr)
                case atStart => exact ⟨0, Nat.zero_le _, rfl, rfl, Below.refl _ _⟩
                case round =>
                  obtain ⟨k, hk, rfl, rfl, hbG⟩ := hrel
                  by_cases hkn : k < nk
                  · have d0 : decide (k < nk) = true := by simpa using hkn
                    have hk' : k < keep.length := by omega
                    have hbH := HbF.out.trans (hbG.mono HbF.out.size)
                    obtain ⟨b, off, rfl, hb1, hc⟩ := Hk.out.at_ (by omega)
                    have q0 := hc k hk'
                    have hu : keep[k] = (((keep.map Int.toNat).getD k 0 : Nat) : Int) := by
                      rw [List.getD_eq_getElem?_getD, List.getElem?_map, List.getElem?_eq_getElem hk']
                      exact (Int.toNat_of_nonneg (Hnn.out _ (List.getElem_mem hk'))).symm
                    rw [hu] at q0
                    have huN : (keep.map Int.toNat).getD k 0 < N := keep_lt Hnat.out (by simpa using hk')
                    have ha' : k < asg.length := by omega
                    obtain ⟨b2, off2, rfl, hb2, hc2⟩ := Ha.out.at_ (by omega)
                    have q1 := hc2 k ha'
                    rw [← getD_at ha', ← Hat.out k (by omega)] at q1
                    have e0 : wr.cell? ⟨b, off + k, none⟩ = some (.int .i64 ((keep.map Int.toNat).getD k 0 : Nat)) := (hbH.cell (p := ⟨b, off + k, none⟩) hb1).trans q0
                    have e1 : wr.cell? ⟨b2, off2 + k, none⟩ = some (.int .u8 (a.getD ((keep.map Int.toNat).getD k 0) 0)) := (hbH.cell (p := ⟨b2, off2 + k, none⟩) hb2).trans q1
                    obtain ⟨u, hue⟩ : ∃ u, (keep.map Int.toNat).getD k 0 = u := ⟨_, rfl⟩
                    rw [hue] at e0 e1 huN
                    have hu' : u < a.length := by rw [HlenN.out]; exact huN
                    obtain ⟨b3, off3, rfl, hb3, hc3⟩ := (Hra.out.below hbG).at_ (by omega)
                    have e2 := hc3 u hu'
                    rw [← getD_at hu'] at e2
                    obtain ⟨m, hm⟩ : ∃ m, a.getD u 0 = m := ⟨_, rfl⟩
                    rw [hm] at e1 e2
                    have i1 : (0 : Int) ≤ (k : Int) := by omega
                    have i2 : (k : Int) < nk := by omega
                    have i2a : (k : Int) < na := by omega
                    have i3 : (0 : Int) ≤ (u : Int) := by omega
                    have i4 : (u : Int) < N := by omega
                    have HbG := Lib.hid hbG
                    clear hc hc2 hc3 hu hue hm q0 q1 hbH hbG hu' huN
                    go_upto_region 34 with fail
                    refine wp_region_noPanic ?_
                    refine wp_region_T (fun w' => w'.cell? ⟨b2, off2 + k, none⟩ = some (.int .u8 m) ∧ w'.cell? ⟨b3, off3 + u, none⟩ = some (.int .u8 m)) 9 (by kernel_rfl) ⟨e1, e2⟩ (fun hHeld => ?_)
                    have hbD := Below.drew HbG.out
                    clear e0 e1 e2
                    generalize wr.drew = W0 at hHeld hbD ⊢
                    refine wpAnyT_take (i := 0) (v := ?_) rfl (by kernel_rfl) (by kernel_rfl) (by kernel_rfl) (by kernel_rfl) (fun _ _ _ h => h) (Or.inl ⟨by rfl, ?_⟩) (by assumption) ?_
                    rotate_left
                    · (intro w hSw; (try dsimp only at hSw); first | (go_simp; done) | (go_simp; with_reducible rfl))
                    try simp only [Act.put, List.getElem_toArray, List.getElem_cons_zero, List.getElem_cons_succ, List.setIfInBounds_toArray, List.set_cons_zero, List.set_cons_succ]
                    refine wpAnyT_take (i := 1) (v := ?_) rfl (by kernel_rfl) (by kernel_rfl) (by kernel_rfl) (by kernel_rfl) (fun _ _ _ h => h) (Or.inl ⟨by rfl, ?_⟩) (by assumption) ?_
                    rotate_left
                    · (intro w hSw; (try dsimp only at hSw); first | (go_simp; done) | (go_simp; with_reducible rfl))
                    try simp only [Act.put, List.getElem_toArray, List.getElem_cons_zero, List.getElem_cons_succ, List.setIfInBounds_toArray, List.set_cons_zero, List.set_cons_succ]
                    refine wpAnyT_take (i := 2) (v := ?_) rfl (by kernel_rfl) (by kernel_rfl) (by kernel_rfl) (by kernel_rfl) (fun _ _ _ h => h) (Or.inl ⟨by rfl, ?_⟩) (by assumption) ?_
                    rotate_left
                    · (intro w hSw; (try dsimp only at hSw); first | (go_simp; done) | (go_simp; with_reducible rfl))
                    try simp only [Act.put, List.getElem_toArray, List.getElem_cons_zero, List.getElem_cons_succ, List.setIfInBounds_toArray, List.set_cons_zero, List.set_cons_succ]
                    refine wpAnyT_take (i := 3) (v := ?_) rfl (by kernel_rfl) (by kernel_rfl) (by kernel_rfl) (by kernel_rfl) (fun _ _ _ h => h) (Or.inl ⟨by rfl, ?_⟩) (by assumption) ?_
                    rotate_left
                    · (intro w hSw; (try dsimp only at hSw); first | (go_simp; done) | (go_simp; with_reducible rfl))
                    try simp only [Act.put, List.getElem_toArray, List.getElem_cons_zero, List.getElem_cons_succ, List.setIfInBounds_toArray, List.set_cons_zero, List.set_cons_succ]
                    refine wpAnyT_take (i := 4) (v := ?_) rfl (by kernel_rfl) (by kernel_rfl) (by kernel_rfl) (by kernel_rfl) (fun _ _ _ h => h) (Or.inl ⟨by rfl, ?_⟩) (by assumption) ?_
                    rotate_left
                    · (intro w hSw; (try dsimp only at hSw); first | (go_simp; done) | (go_simp; with_reducible rfl))
                    try simp only [Act.put, List.getElem_toArray, List.getElem_cons_zero, List.getElem_cons_succ, List.setIfInBounds_toArray, List.set_cons_zero, List.set_cons_succ]
                    refine wpAnyT_take (i := 5) (v := ?_) rfl (by kernel_rfl) (by kernel_rfl) (by kernel_rfl) (by kernel_rfl) (fun _ _ _ h => h) (Or.inl ⟨by rfl, ?_⟩) (by assumption) ?_
                    rotate_left
                    · (intro w hSw; (try dsimp only at hSw); first | (go_simp; done) | (go_simp; with_reducible rfl))
                    try simp only [Act.put, List.getElem_toArray, List.getElem_cons_zero, List.getElem_cons_succ, List.setIfInBounds_toArray, List.set_cons_zero, List.set_cons_succ]
                    refine wpAnyT_take (i := 6) (v := ?_) rfl (by kernel_rfl) (by kernel_rfl) (by kernel_rfl) (by kernel_rfl) (fun _ _ _ h => h) (Or.inl ⟨by rfl, ?_⟩) (by assumption) ?_
                    rotate_left
                    · (intro w hSw; (try dsimp only at hSw); first | (go_simp; done) | (go_simp; with_reducible rfl))
                    try simp only [Act.put, List.getElem_toArray, List.getElem_cons_zero, List.getElem_cons_succ, List.setIfInBounds_toArray, List.set_cons_zero, List.set_cons_succ]
                    refine wpAnyT_take (i := 7) (v := ?_) rfl (by kernel_rfl) (by kernel_rfl) (by kernel_rfl) (by kernel_rfl) (fun _ _ _ h => h) (Or.inl ⟨by rfl, ?_⟩) (by assumption) ?_
                    rotate_left
                    · (intro w hSw; (try dsimp only at hSw); first | (go_simp; done) | (go_simp; with_reducible rfl))
                    try simp only [Act.put, List.getElem_toArray, List.getElem_cons_zero, List.getElem_cons_succ, List.setIfInBounds_toArray, List.set_cons_zero, List.set_cons_succ]
                    refine wpAnyT_take (i := 8) (v := ?_) rfl (by kernel_rfl) (by kernel_rfl) (by kernel_rfl) (by kernel_rfl) (fun _ _ _ h => h) (Or.inl ⟨by rfl, ?_⟩) (by assumption) ?_
                    rotate_left
                    · (intro w hSw; (try dsimp only at hSw); first | (go_simp; done) | (go_simp; with_reducible rfl))
                    try simp only [Act.put, List.getElem_toArray, List.getElem_cons_zero, List.getElem_cons_succ, List.setIfInBounds_toArray, List.set_cons_zero, List.set_cons_succ]
                    have HbD := Lib.hid hbD
                    clear hHeld hbD
                    refine wpAnyT_seq 9 (by omega) (by rfl) (by kernel_rfl) ?_
                    simp only [List.drop_succ_cons, List.drop_zero]
                    go_wp2_with fail
                    refine NoPanic.normal ?_
                    go_wp2_with fail
                    go_roundg (nk - (k + 1))
                    case measure => omega
                    case rel => exact ⟨k + 1, by omega, rfl, by simp, HbD.out⟩
                  · have d0 : decide (k < nk) = false := by simpa using hkn
                    have Hbw := Lib.hid (HbF.out.trans (hbG.mono HbF.out.size))
                    obtain ⟨wG, hwG⟩ : ∃ x, x = wr := ⟨_, rfl⟩
                    subst hwG
                    clear hbG
                    go_wp2_with fail
                    refine (works5_any wG).mono ?_
                    rintro e w8 ⟨rfl, hb8⟩
                    have Hb8 := Lib.hid (Hbw.out.trans (hb8.mono Hbw.out.size))
                    clear hb8
                    go_wp2_with fail
                    go_ret
                    exact ⟨by first | rfl | decide | simp, Hb8.out⟩
    · have d0 : (er != 0) = true := by simpa using h0
      clear hR h0
      go_wp2_with fail
      rw [Hw3.out]
      have Hbw := Hb3
      refine (works5_any w3).mono ?_
      rintro e w8 ⟨rfl, hb8⟩
      have Hb8 := Lib.hid (Hbw.out.trans (hb8.mono Hbw.out.size))
      clear hb8
      go_wp2_with fail
      go_ret
      exact ⟨by first | rfl | decide | simp, Hb8.out⟩

theorem walk_elimExact (n : Int) (hn : -9223372036854775808 ≤ n ∧ n ≤ 9223372036854775807) (v1 : Value) (w : World) (h1 : IneqsIn w v1) (v2 : Value) (h2 : IntsIn w v2) (v3 : Value) (h3 : MultsIn w v3) (v4 : Value) (h4 : MultsIn w v4) :
    Calls Try.prog 10 #[.int .i64 n, v1, v2, v3, v4] w fun e w' => e = .returned (.bool true) ∧ Below w.heap.size w w' := by
  obtain ⟨A', nl, c', xs, rfl, hx, _⟩ := h1
  obtain ⟨A, m, c, us, rfl, h2⟩ := h2
  obtain ⟨A3, m3, c3, us3, rfl, h3, _⟩ := h3
  obtain ⟨A4, m4, c4, us4, rfl, h4, _⟩ := h4
  exact walkA_elimExact n A' nl c' xs A m c us A3 m3 c3 us3 A4 m4 c4 us4 w hx h2 h3 h4

/-! ### the row's step -/
namespace elimExact
set_option maxRecDepth 100000 in
theorem lifted (os : Os) (started : os.Started) (H : Type) (enc : TypeId × Value → H) :
    ReturnsInHanded {} Try.checked os 10 .any (Rows.elimExactSpec.pre6 enc Try.prog Try.f10 Rows.elimExactRow.domain false) (Rows.elimExactSpec.post enc Try.prog Try.f10 false true false false) := by
  refine returnsInHanded_of_change_sized (C := Try.checked) own started (by kernel_rfl) Try.func10
    (ChangeSpec.witness6 (enc := enc) (C := Try.checked) false ⟨#[], #[.int .i64 0, .slice none 0 0, .slice none 0 0, .slice none 0 0, .slice none 0 0], []⟩ 8 (by kernel_rfl) (by kernel_rfl) (by kernel_rfl) (by kernel_rfl)) ?_
  intro W base args ds gs before hval0 hW hcnd hsz0 _
  have hsz : (DataW.weightsEach Try.prog (Try.f10.params.toList ++ Rows.elimExactSpec.plain.varTypes Try.prog) (ds ++ gs)).all (· ≤ reachBytes) = true := hsz0
  have hval : ∀ (j : Nat) t v, Try.f10.params[j]? = some t → args[j]? = some v → Value.okWide Try.prog W .any base t v := hval0
  have hW' := hW
  obtain ⟨p, q, hA0, hV, rfl, hfz, hnd⟩ := hW
  have hA : DataW.TrodAll enc Try.prog W 0 (fun _ => true) true Try.f10.params.toList args.toList ds p := hA0
  rw [Try.params10] at hA hval hsz
  obtain ⟨v0, vs0, d0, ds0, p0, q0, hargs, rfl, rfl, h0, r_0⟩ := trodAll_cons hA
  obtain ⟨v1, vs1, d1, ds1, p1, q1, rfl, rfl, rfl, h1, r_1⟩ := trodAll_cons r_0
  obtain ⟨v2, vs2, d2, ds2, p2, q2, rfl, rfl, rfl, h2, r_2⟩ := trodAll_cons r_1
  obtain ⟨v3, vs3, d3, ds3, p3, q3, rfl, rfl, rfl, h3, r_3⟩ := trodAll_cons r_2
  obtain ⟨v4, vs4, d4, ds4, p4, q4, rfl, rfl, rfl, h4, r_4⟩ := trodAll_cons r_3
  obtain ⟨rfl, rfl, rfl⟩ := trodAll_nil r_4
  obtain rfl : args = #[v0, v1, v2, v3, v4] := by cases args; simp_all
  obtain ⟨rfl, rfl⟩ := trodVars_none hV
  obtain ⟨a0, rfl, _, _, w0⟩ := open_int Try.underlying3 (hval 0 3 v0 rfl rfl) h0
  have b0 := bounds_i64 w0
  have w1 := rd_ineqs (hval 1 35 v1 rfl rfl) h1
  have w2 := rd_intsI (hval 2 23 v2 rfl rfl) h2
  have w3 := rd_mults (hval 3 22 v3 rfl rfl) h3
  have w4 := rd_mults (hval 4 22 v4 rfl rfl) h4
  refine (walk_elimExact (w := W) a0 b0 v1 w1 v2 w2 v3 w3 v4 w4).mono fun e W' ⟨he, bel⟩ => ?_
  subst he
  exact ⟨_, rfl, law_post laidOut (by kernel_rfl) rfl rfl Try.underlying4 hW' rfl rfl rfl bel⟩
theorem over : Rows.elimExactRow.holds Try.pinned (OpenSpec.ofChange Rows.elimExactSpec) :=
  OpenClaim.holds_of_wide 10 Try.f10 rfl rfl rfl rfl rfl rfl rfl ⟨rfl, rfl, rfl, rfl, rfl⟩ rfl rfl rfl rfl rfl (by kernel_rfl) Try.func10 (by kernel_rfl)
    (of_decide_eq_true (by kernel_rfl)) (by unfold Func.isWrapper; first | (rw [if_pos (by decide +kernel)]; kernel_rfl) | (rw [if_neg (by decide +kernel)]; exact ⟨rfl, rfl⟩))
    (fun os started H enc _ => lifted os started H enc)
/-- the statement -/
theorem proved : Rows.ElimExactSaid := over
#print axioms proved
end elimExact
end Go.Proofs.Ythabkpkgocafoaa
