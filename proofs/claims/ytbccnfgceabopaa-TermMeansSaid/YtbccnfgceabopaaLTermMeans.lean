/- TermMeans holds for every input: what is told of joined, summed, scaled terms under an assignment is joined, summed, scaled of what is told of each. No conditions. -/
import Derived.Test.YtbccnfgceabopaaLawU
import Derived.Test.YtbccnfgceabopaaPlC
namespace Go.Proofs.Ytbccnfgceabopaa
set_option linter.unusedVariables false
set_option linter.unusedSimpArgs false
open Go.ChangeShapes Go.WideShapes Go.ChangeAt Go.RowKit

section
variable {w : World} {x y : Int}
theorem uses2 (w : World) (x y : Int) : Rd (w.alloc (Obj.cells #[.int .u8 x, .int .u8 y] 32)) (w.heap.size + 1) 1 (some ⟨w.heap.size, 0, none⟩) 2 ([x, y].map (Value.int .u8)) := Rd.new w [.int .u8 x, .int .u8 y] 32
theorem join2M (w : World) (x y : Int) :
    Calls Try.prog 24 #[.slice (some ⟨w.heap.size, 0, none⟩) 2 2] (w.alloc (Obj.cells #[.int .u8 x, .int .u8 y] 32)) fun e w' => e = .returned (.int .u8 (joinI [x, y])) ∧ Below w.heap.size w w' :=
  (join_any _ 2 2 _ [x, y] _ (uses2 w x y) (by omega)).mono fun e w' ⟨h1, h2⟩ => ⟨h1, by rw [← h2]; exact below_box _⟩
theorem sum2M (w : World) (x y : Int) :
    Calls Try.prog 25 #[.slice (some ⟨w.heap.size, 0, none⟩) 2 2] (w.alloc (Obj.cells #[.int .u8 x, .int .u8 y] 32)) fun e w' => e = .returned (.int .u8 (sumI [x, y])) ∧ Below w.heap.size w w' :=
  (sum_any _ 2 2 _ [x, y] _ (uses2 w x y) (by omega)).mono fun e w' ⟨h1, h2⟩ => ⟨h1, by rw [← h2]; exact below_box _⟩
end
theorem at_fine (v : Value) (t : TermD) (A' : Option Addr) (n' c' : Nat) (asg : List Int) (w : World) (hv : TermV w w.heap.size v t) (ha : RdI .u8 w w.heap.size A' n' c' asg) (hf : Fine asg t) :
    Calls Try.prog 12 #[v, .slice A' n' c'] w fun e w' => e = .returned (.tuple #[.int .u8 (valT asg t), .int .i64 0]) ∧ Below w.heap.size w w' := by
  have := at_any v t A' n' c' asg w _ _ hv (Nat.le_refl _) ha (Nat.le_refl _)
  rw [fine_at hf] at this
  exact this

set_option maxHeartbeats 2000000 in
theorem walkA_termMeans (A : Option Addr) (n c : Nat) (a : TermD) (A2 : Option Addr) (n2 c2 : Nat) (b : TermD) (V C : Int) (A' : Option Addr) (n' c' : Nat) (asg : List Int) (w : World)
    (hr : RdI .i64 w w.heap.size A n c a.vars) (hr2 : RdI .i64 w w.heap.size A2 n2 c2 b.vars) (ha : RdI .u8 w w.heap.size A' n' c' asg) (hC : 0 ≤ C) :
    Calls Try.prog 6 #[.agg #[.bool a.never, .int .u8 a.c, .slice A n c], .agg #[.bool b.never, .int .u8 b.c, .slice A2 n2 c2], .agg #[.int .i64 V, .int .u8 C], .slice A' n' c'] w fun e w' => e = .returned (.bool true) ∧ Below w.heap.size w w' := by
  have st1 := (St.start w).new a hr
  have st2 := st1.new b (st1.rd hr2)
  have st := st2.alloc (Obj.cells #[.int .i64 V, .int .u8 C] 47)
  have hmu := blk_new ((w.alloc (Obj.cells #[.bool a.never, .int .u8 a.c, .slice A n c] 25)).alloc (Obj.cells #[.bool b.never, .int .u8 b.c, .slice A2 n2 c2] 25)) #[.int .i64 V, .int .u8 C] 47
  rw [World.size_alloc, World.size_alloc] at hmu
  rw [World.size_alloc] at st
  have hz : (((w.alloc (Obj.cells #[.bool a.never, .int .u8 a.c, .slice A n c] 25)).alloc (Obj.cells #[.bool b.never, .int .u8 b.c, .slice A2 n2 c2] 25)).alloc (Obj.cells #[.int .i64 V, .int .u8 C] 47)).heap.size = w.heap.size + 1 + 1 + 1 := by simp
  have hr1 := st.rd hr
  have hr3 := st.rd hr2
  obtain ⟨G, hG⟩ : ∃ G, greatB [a, b] = G := ⟨_, rfl⟩
  have hgr := great2_any hr1 hr3
  rw [hG] at hgr
  have Ha := Lib.hid ha
  have HG := Lib.hid hG
  have Hgr := Lib.hid hgr
  have Hst := Lib.hid st
  have Hmu := Lib.hid hmu
  clear hG hgr hr ha st hr1 hr2 hr3 hmu st1 st2
  go_enter Try.func6, Try.ntmps6
  go_wp2_with fail
  rw [← hz]
  refine Hgr.out.mono ?_; rintro e w2 ⟨rfl, hb2⟩
  have st := Hst.out.below hb2
  have hmu := Hmu.out.below hb2 Hmu.out.lt
  clear Hst hb2 Hgr hz Hmu
  generalize w.heap.size = g4 at st hmu ⊢
  cases G
  · generalize hg5 : g4 + 1 = g5 at st hmu ⊢
    generalize hg6 : g5 + 1 = g6 at hmu ⊢
    clear hg5 hg6
    obtain ⟨A1, n1, c1, x0, x1, x2, hr1⟩ := st.val g4 a (by simp)
    go_wp2_with fail
    refine (at_any (.agg #[.bool (a).never, .int .u8 (a).c, .slice A1 n1 c1]) (a) A' n' c' asg w2 _ _ ⟨A1, n1, c1, rfl, hr1⟩ (Nat.le_refl _) (st.rd Ha.out) (Nat.le_refl _)).mono ?_; rintro e w3 ⟨rfl, hbx⟩
    replace st := st.below hbx
    replace hmu := hmu.below hbx hmu.lt
    clear hbx x0 x1 x2 hr1
    obtain ⟨u, hu⟩ : ∃ u, (atR a asg).1 = u := ⟨_, rfl⟩
    obtain ⟨E, hE⟩ : ∃ E, (atR a asg).2 = E := ⟨_, rfl⟩
    rw [hu, hE]
    have Hu := Lib.hid hu
    have HE := Lib.hid hE
    clear hu hE
    obtain ⟨A1, n1, c1, x0, x1, x2, hr1⟩ := st.val g5 b (by simp)
    go_wp2_with fail
    refine (at_any (.agg #[.bool (b).never, .int .u8 (b).c, .slice A1 n1 c1]) (b) A' n' c' asg w3 _ _ ⟨A1, n1, c1, rfl, hr1⟩ (Nat.le_refl _) (st.rd Ha.out) (Nat.le_refl _)).mono ?_; rintro e w4 ⟨rfl, hbx⟩
    replace st := st.below hbx
    replace hmu := hmu.below hbx hmu.lt
    clear hbx x0 x1 x2 hr1
    obtain ⟨v, hv⟩ : ∃ v, (atR b asg).1 = v := ⟨_, rfl⟩
    obtain ⟨E', hE'⟩ : ∃ E, (atR b asg).2 = E := ⟨_, rfl⟩
    rw [hv, hE']
    have Hv := Lib.hid hv
    have HE' := Lib.hid hE'
    clear hv hE'
    by_cases h0 : E = 0
    · by_cases h0' : E' = 0
      · subst h0; subst h0'
        have hfa := fine_of_at HE.out
        have hfb := fine_of_at HE'.out
        have hua : valT asg a = u := by rw [← Hu.out, fine_at hfa]
        have hvb : valT asg b = v := by rw [← Hv.out, fine_at hfb]
        have hj := means_join hfa hfb
        have hs := means_sum hfa hfb
        rw [hua, hvb] at hj hs
        have hall : allMay [a, b] = true := by simp [allMay, hfa.1, hfb.1]
        have HG' := HG.out
        have Hj := Lib.hid hj
        have Hs := Lib.hid hs
        have Hfa := Lib.hid hfa
        have Hall := Lib.hid hall
        have Hua := Lib.hid hua
        clear hfa hfb hua hvb hj hs hall HE HE' Hu Hv
        obtain ⟨A1, n1, c1, x0, x1, x2, hr1⟩ := st.val g4 a (by simp)
        obtain ⟨A2', n2', c2', y0, y1, y2, hr2⟩ := st.val g5 b (by simp)
        go_wp2_with fail
        refine (join2_any hr1 hr2 HG').mono ?_
        rintro e w5 ⟨A5, n5, c5, rfl, hr5, hb5⟩
        rw [Hall.out] at hr5 ⊢
        simp only [if_true] at hr5 ⊢
        replace st := st.below hb5
        replace hmu := hmu.below hb5 hmu.lt
        clear hb5 x0 x1 x2 hr1 y0 y1 y2 hr2
        obtain ⟨A1, n1, c1, x0, x1, x2, hr1⟩ := st.val g4 a (by simp)
        obtain ⟨A2', n2', c2', y0, y1, y2, hr2⟩ := st.val g5 b (by simp)
        have l4 := st.lt g4 a (by simp)
        have l5 := st.lt g5 b (by simp)
        go_wp2_with fail
        replace st := st.new (joinT [a, b]) hr5
        replace hmu := hmu.below (below_box (Obj.cells #[.bool (joinT [a, b]).never, .int .u8 (joinT [a, b]).c, .slice A5 n5 c5] 25)) hmu.lt
        replace hr1 := hr1.fresh (below_box (Obj.cells #[.bool (joinT [a, b]).never, .int .u8 (joinT [a, b]).c, .slice A5 n5 c5] 25)) (Nat.le_refl _)
        replace hr2 := hr2.fresh (below_box (Obj.cells #[.bool (joinT [a, b]).never, .int .u8 (joinT [a, b]).c, .slice A5 n5 c5] 25)) (Nat.le_refl _)
        have hz6 : (w5.alloc (Obj.cells #[.bool (joinT [a, b]).never, .int .u8 (joinT [a, b]).c, .slice A5 n5 c5] 25)).heap.size = w5.heap.size + 1 := by simp
        clear x0 x1 x2 y0 y1 y2 l4 l5
        generalize w5.alloc (Obj.cells #[.bool (joinT [a, b]).never, .int .u8 (joinT [a, b]).c, .slice A5 n5 c5] 25) = w6 at st hmu hz6 hr1 hr2 ⊢
        rw [← hz6]
        generalize w5.heap.size = g13 at st hz6 ⊢
        clear hr5 hz6
        refine (sum2_any hr1 hr2 HG').mono ?_
        rintro e w7 ⟨A7, n7, c7, rfl, hr7, hb7⟩
        rw [Hall.out] at hr7 ⊢
        simp only [if_true] at hr7 ⊢
        replace st := st.below hb7
        replace hmu := hmu.below hb7 hmu.lt
        clear hb7 hr1 hr2
        obtain ⟨A1, n1, c1, x0, x1, x2, hr1⟩ := st.val g13 (joinT [a, b]) (by simp)
        have l13 := st.lt g13 (joinT [a, b]) (by simp)
        go_wp2_with fail
        replace st := st.new (sumT [a, b]) hr7
        replace hmu := hmu.below (below_box (Obj.cells #[.bool (sumT [a, b]).never, .int .u8 (sumT [a, b]).c, .slice A7 n7 c7] 25)) hmu.lt
        replace hr1 := hr1.fresh (below_box (Obj.cells #[.bool (sumT [a, b]).never, .int .u8 (sumT [a, b]).c, .slice A7 n7 c7] 25)) (Nat.le_refl _)
        clear x0 x1 x2 l13
        generalize w7.alloc (Obj.cells #[.bool (sumT [a, b]).never, .int .u8 (sumT [a, b]).c, .slice A7 n7 c7] 25) = w8 at st hmu hr1 ⊢
        generalize w7.heap.size = g14 at st ⊢
        clear hr7
        refine (at_fine (.agg #[.bool (joinT [a, b]).never, .int .u8 (joinT [a, b]).c, .slice A1 n1 c1]) (joinT [a, b]) A' n' c' asg w8 ⟨A1, n1, c1, rfl, hr1⟩ (st.rd Ha.out) Hj.out.1).mono ?_; rintro e w9 ⟨rfl, hbx⟩
        rw [Hj.out.2]
        replace st := st.below hbx
        replace hmu := hmu.below hbx hmu.lt
        clear hbx hr1
        obtain ⟨A1, n1, c1, x0, x1, x2, hr1⟩ := st.val g14 (sumT [a, b]) (by simp)
        go_wp2_with fail
        refine (at_fine (.agg #[.bool (sumT [a, b]).never, .int .u8 (sumT [a, b]).c, .slice A1 n1 c1]) (sumT [a, b]) A' n' c' asg w9 ⟨A1, n1, c1, rfl, hr1⟩ (st.rd Ha.out) Hs.out.1).mono ?_; rintro e w10 ⟨rfl, hbx⟩
        rw [Hs.out.2]
        replace st := st.below hbx
        replace hmu := hmu.below hbx hmu.lt
        clear hbx x0 x1 x2 hr1
        go_wp2_with fail
        refine (join2M w10 u v).mono ?_; rintro e w11 ⟨rfl, hb11⟩
        replace st := st.below hb11
        replace hmu := hmu.below hb11 hmu.lt
        clear hb11
        generalize joinI [u, v] = ju
        go_wp2_with fail
        refine (sum2M w11 u v).mono ?_; rintro e w12 ⟨rfl, hb12⟩
        replace st := st.below hb12
        replace hmu := hmu.below hb12 hmu.lt
        clear hb12
        generalize sumI [u, v] = su
        have m0 : w12.cell? ⟨g6, 0, none⟩ = some (.int .i64 V) := hmu.cell 0
        have m1 : w12.cell? ⟨g6, 1, none⟩ = some (.int .u8 C) := hmu.cell 1
        have hla := Ha.out.len
        have Hla := Lib.hid hla
        clear hla
        by_cases hc : C = 0
        · have d1 : (C == 0) = true := by simp [hc]
          by_cases hv0 : 0 ≤ V
          · have d2 : decide (0 ≤ V) = true := by simpa using hv0
            by_cases hvn : V < n'
            · obtain ⟨k, rfl⟩ : ∃ k : Nat, V = k := ⟨V.toNat, (Int.toNat_of_nonneg hv0).symm⟩
              have hkn : k < n' := by omega
              have d3 : decide (k < n') = true := by simpa using hkn
              have hby : byV asg C k = asg[k]'(by rw [Hla.out]; exact hkn) := by
                unfold byV
                rw [if_pos ⟨hc, hv0, by rw [Hla.out]; exact hvn⟩]
                simp [atV, List.getD, Hla.out, hkn]
              have hax := (st.rd Ha.out).cell hkn
              obtain ⟨b', off', rfl, _, cax⟩ := hax
              generalize asg[k]'(by rw [Hla.out]; exact hkn) = Y at hby cax
              have HY := Lib.hid hby
              have i1 : (0 : Int) ≤ (k : Int) := by omega
              have i2 : (k : Int) < (n' : Int) := by omega
              clear hby hc hvn hv0
              go_wp2_with fail
              refine (is_any C (k : Int) w12).mono ?_; rintro e w13 ⟨rfl, hb13⟩
              replace st := st.below hb13
              replace hmu := hmu.below hb13 hmu.lt
              clear hb13 m0 m1
              cases hib : isB C (k : Int)
              · rw [isE_no hib]
                clear hib
                go_wp2_with fail
                refine (works_any _).mono ?_; rintro e w14 ⟨rfl, hbx⟩
                go_wp2_with fail
                go_ret
                exact ⟨rfl, (st.below hbx).bel⟩
              · rw [isE_yes hib]
                by_cases hy1 : Y < 1
                · have e1 : decide (Y < 1) = true := by simpa using hy1
                  clear hib hy1
                  go_wp2_with fail
                  refine (works_any _).mono ?_; rintro e w14 ⟨rfl, hbx⟩
                  go_wp2_with fail
                  go_ret
                  exact ⟨rfl, (st.below hbx).bel⟩
                · have e1 : decide (Y < 1) = false := by simpa using hy1
                  by_cases hy3 : 3 < Y
                  · have e2 : decide (3 < Y) = true := by simpa using hy3
                    clear hib hy1 hy3
                    go_wp2_with fail
                    refine (works_any _).mono ?_; rintro e w14 ⟨rfl, hbx⟩
                    go_wp2_with fail
                    go_ret
                    exact ⟨rfl, (st.below hbx).bel⟩
                  · have e2 : decide (3 < Y) = false := by simpa using hy3
                    have hsc := means_scale Hfa.out hib (by rw [HY.out]; omega) (by rw [HY.out]; omega)
                    rw [HY.out, Hua.out] at hsc
                    have Hsc := Lib.hid hsc
                    have Hib := Lib.hid hib
                    clear hsc hib hy1 hy3
                    obtain ⟨A1, n1, c1, x0, x1, x2, hr1⟩ := st.val g4 a (by simp)
                    have m0 : w13.cell? ⟨g6, 0, none⟩ = some (.int .i64 (k : Int)) := hmu.cell 0
                    have m1 : w13.cell? ⟨g6, 1, none⟩ = some (.int .u8 C) := hmu.cell 1
                    go_wp2_with fail
                    refine (scaleT_yes C (k : Int) (.agg #[.bool a.never, .int .u8 a.c, .slice A1 n1 c1]) a w13 _ ⟨A1, n1, c1, rfl, hr1⟩ (Nat.le_refl _) Hib.out Hfa.out.1 (Nat.le_trans (great_vars HG' a (by simp)) (by omega))).mono ?_
                    rintro e w14 ⟨A9, n9, c9, rfl, hr9, hb14⟩
                    replace st := st.below hb14
                    clear hb14 x0 x1 x2 hr1 hmu m0 m1
                    go_wp2_with fail
                    replace st := st.alloc (Obj.cells #[.bool (scaleT C (k : Int) a).never, .int .u8 (scaleT C (k : Int) a).c, .slice A9 n9 c9] 25)
                    replace hr9 := hr9.fresh (below_box (Obj.cells #[.bool (scaleT C (k : Int) a).never, .int .u8 (scaleT C (k : Int) a).c, .slice A9 n9 c9] 25)) (Nat.le_refl _)
                    refine (at_fine (.agg #[.bool (scaleT C (k : Int) a).never, .int .u8 (scaleT C (k : Int) a).c, .slice A9 n9 c9]) (scaleT C (k : Int) a) _ _ _ asg _ ⟨A9, n9, c9, rfl, hr9⟩ (st.rd Ha.out) Hsc.out.1).mono ?_; rintro e w15 ⟨rfl, hb15⟩
                    rw [Hsc.out.2]
                    replace st := st.below hb15
                    clear hb15 hr9
                    go_wp2_with fail
                    refine (scale_any Y u w15).mono ?_; rintro e w16 ⟨rfl, rfl⟩
                    go_wp2_with fail
                    refine (works_any _).mono ?_; rintro e w17 ⟨rfl, hbx⟩
                    go_wp2_with fail
                    go_ret
                    exact ⟨rfl, (st.below hbx).bel⟩
            · have hge : ¬ V < (n' : Int) := hvn
              have d3 : decide (V < (n' : Int)) = false := by simpa using hvn
              have hby : byV asg C V = C := by
                unfold byV
                rw [if_neg (by rw [Hla.out]; omega)]
              have HY := Lib.hid hby
              clear hby hc hvn hv0
              go_wp2_with fail
              refine (is_any C V w12).mono ?_; rintro e w13 ⟨rfl, hb13⟩
              replace st := st.below hb13
              replace hmu := hmu.below hb13 hmu.lt
              clear hb13 m0 m1
              cases hib : isB C V
              · rw [isE_no hib]
                clear hib
                go_wp2_with fail
                refine (works_any _).mono ?_; rintro e w14 ⟨rfl, hbx⟩
                go_wp2_with fail
                go_ret
                exact ⟨rfl, (st.below hbx).bel⟩
              · rw [isE_yes hib]
                by_cases hy1 : C < 1
                · have e1 : decide (C < 1) = true := by simpa using hy1
                  clear hib hy1
                  go_wp2_with fail
                  refine (works_any _).mono ?_; rintro e w14 ⟨rfl, hbx⟩
                  go_wp2_with fail
                  go_ret
                  exact ⟨rfl, (st.below hbx).bel⟩
                · have e1 : decide (C < 1) = false := by simpa using hy1
                  by_cases hy3 : 3 < C
                  · have e2 : decide (3 < C) = true := by simpa using hy3
                    clear hib hy1 hy3
                    go_wp2_with fail
                    refine (works_any _).mono ?_; rintro e w14 ⟨rfl, hbx⟩
                    go_wp2_with fail
                    go_ret
                    exact ⟨rfl, (st.below hbx).bel⟩
                  · have e2 : decide (3 < C) = false := by simpa using hy3
                    have hsc := means_scale Hfa.out hib (by rw [HY.out]; omega) (by rw [HY.out]; omega)
                    rw [HY.out, Hua.out] at hsc
                    have Hsc := Lib.hid hsc
                    have Hib := Lib.hid hib
                    clear hsc hib hy1 hy3
                    obtain ⟨A1, n1, c1, x0, x1, x2, hr1⟩ := st.val g4 a (by simp)
                    have m0 : w13.cell? ⟨g6, 0, none⟩ = some (.int .i64 V) := hmu.cell 0
                    have m1 : w13.cell? ⟨g6, 1, none⟩ = some (.int .u8 C) := hmu.cell 1
                    go_wp2_with fail
                    refine (scaleT_yes C V (.agg #[.bool a.never, .int .u8 a.c, .slice A1 n1 c1]) a w13 _ ⟨A1, n1, c1, rfl, hr1⟩ (Nat.le_refl _) Hib.out Hfa.out.1 (Nat.le_trans (great_vars HG' a (by simp)) (by omega))).mono ?_
                    rintro e w14 ⟨A9, n9, c9, rfl, hr9, hb14⟩
                    replace st := st.below hb14
                    clear hb14 x0 x1 x2 hr1 hmu m0 m1
                    go_wp2_with fail
                    replace st := st.alloc (Obj.cells #[.bool (scaleT C V a).never, .int .u8 (scaleT C V a).c, .slice A9 n9 c9] 25)
                    replace hr9 := hr9.fresh (below_box (Obj.cells #[.bool (scaleT C V a).never, .int .u8 (scaleT C V a).c, .slice A9 n9 c9] 25)) (Nat.le_refl _)
                    refine (at_fine (.agg #[.bool (scaleT C V a).never, .int .u8 (scaleT C V a).c, .slice A9 n9 c9]) (scaleT C V a) _ _ _ asg _ ⟨A9, n9, c9, rfl, hr9⟩ (st.rd Ha.out) Hsc.out.1).mono ?_; rintro e w15 ⟨rfl, hb15⟩
                    rw [Hsc.out.2]
                    replace st := st.below hb15
                    clear hb15 hr9
                    go_wp2_with fail
                    refine (scale_any C u w15).mono ?_; rintro e w16 ⟨rfl, rfl⟩
                    go_wp2_with fail
                    refine (works_any _).mono ?_; rintro e w17 ⟨rfl, hbx⟩
                    go_wp2_with fail
                    go_ret
                    exact ⟨rfl, (st.below hbx).bel⟩
          · have d2 : decide (0 ≤ V) = false := by simpa using hv0
            have hby : byV asg C V = C := by
              unfold byV
              rw [if_neg (by omega)]
            have HY := Lib.hid hby
            clear hby hc hv0
            go_wp2_with fail
            refine (is_any C V w12).mono ?_; rintro e w13 ⟨rfl, hb13⟩
            replace st := st.below hb13
            replace hmu := hmu.below hb13 hmu.lt
            clear hb13 m0 m1
            cases hib : isB C V
            · rw [isE_no hib]
              clear hib
              go_wp2_with fail
              refine (works_any _).mono ?_; rintro e w14 ⟨rfl, hbx⟩
              go_wp2_with fail
              go_ret
              exact ⟨rfl, (st.below hbx).bel⟩
            · rw [isE_yes hib]
              by_cases hy1 : C < 1
              · have e1 : decide (C < 1) = true := by simpa using hy1
                clear hib hy1
                go_wp2_with fail
                refine (works_any _).mono ?_; rintro e w14 ⟨rfl, hbx⟩
                go_wp2_with fail
                go_ret
                exact ⟨rfl, (st.below hbx).bel⟩
              · have e1 : decide (C < 1) = false := by simpa using hy1
                by_cases hy3 : 3 < C
                · have e2 : decide (3 < C) = true := by simpa using hy3
                  clear hib hy1 hy3
                  go_wp2_with fail
                  refine (works_any _).mono ?_; rintro e w14 ⟨rfl, hbx⟩
                  go_wp2_with fail
                  go_ret
                  exact ⟨rfl, (st.below hbx).bel⟩
                · have e2 : decide (3 < C) = false := by simpa using hy3
                  have hsc := means_scale Hfa.out hib (by rw [HY.out]; omega) (by rw [HY.out]; omega)
                  rw [HY.out, Hua.out] at hsc
                  have Hsc := Lib.hid hsc
                  have Hib := Lib.hid hib
                  clear hsc hib hy1 hy3
                  obtain ⟨A1, n1, c1, x0, x1, x2, hr1⟩ := st.val g4 a (by simp)
                  have m0 : w13.cell? ⟨g6, 0, none⟩ = some (.int .i64 V) := hmu.cell 0
                  have m1 : w13.cell? ⟨g6, 1, none⟩ = some (.int .u8 C) := hmu.cell 1
                  go_wp2_with fail
                  refine (scaleT_yes C V (.agg #[.bool a.never, .int .u8 a.c, .slice A1 n1 c1]) a w13 _ ⟨A1, n1, c1, rfl, hr1⟩ (Nat.le_refl _) Hib.out Hfa.out.1 (Nat.le_trans (great_vars HG' a (by simp)) (by omega))).mono ?_
                  rintro e w14 ⟨A9, n9, c9, rfl, hr9, hb14⟩
                  replace st := st.below hb14
                  clear hb14 x0 x1 x2 hr1 hmu m0 m1
                  go_wp2_with fail
                  replace st := st.alloc (Obj.cells #[.bool (scaleT C V a).never, .int .u8 (scaleT C V a).c, .slice A9 n9 c9] 25)
                  replace hr9 := hr9.fresh (below_box (Obj.cells #[.bool (scaleT C V a).never, .int .u8 (scaleT C V a).c, .slice A9 n9 c9] 25)) (Nat.le_refl _)
                  refine (at_fine (.agg #[.bool (scaleT C V a).never, .int .u8 (scaleT C V a).c, .slice A9 n9 c9]) (scaleT C V a) _ _ _ asg _ ⟨A9, n9, c9, rfl, hr9⟩ (st.rd Ha.out) Hsc.out.1).mono ?_; rintro e w15 ⟨rfl, hb15⟩
                  rw [Hsc.out.2]
                  replace st := st.below hb15
                  clear hb15 hr9
                  go_wp2_with fail
                  refine (scale_any C u w15).mono ?_; rintro e w16 ⟨rfl, rfl⟩
                  go_wp2_with fail
                  refine (works_any _).mono ?_; rintro e w17 ⟨rfl, hbx⟩
                  go_wp2_with fail
                  go_ret
                  exact ⟨rfl, (st.below hbx).bel⟩
        · have d1 : (C == 0) = false := by simp [hc]
          have hby : byV asg C V = C := by
            unfold byV
            rw [if_neg (by omega)]
          have HY := Lib.hid hby
          clear hby hc
          go_wp2_with fail
          refine (is_any C V w12).mono ?_; rintro e w13 ⟨rfl, hb13⟩
          replace st := st.below hb13
          replace hmu := hmu.below hb13 hmu.lt
          clear hb13 m0 m1
          cases hib : isB C V
          · rw [isE_no hib]
            clear hib
            go_wp2_with fail
            refine (works_any _).mono ?_; rintro e w14 ⟨rfl, hbx⟩
            go_wp2_with fail
            go_ret
            exact ⟨rfl, (st.below hbx).bel⟩
          · rw [isE_yes hib]
            by_cases hy1 : C < 1
            · have e1 : decide (C < 1) = true := by simpa using hy1
              clear hib hy1
              go_wp2_with fail
              refine (works_any _).mono ?_; rintro e w14 ⟨rfl, hbx⟩
              go_wp2_with fail
              go_ret
              exact ⟨rfl, (st.below hbx).bel⟩
            · have e1 : decide (C < 1) = false := by simpa using hy1
              by_cases hy3 : 3 < C
              · have e2 : decide (3 < C) = true := by simpa using hy3
                clear hib hy1 hy3
                go_wp2_with fail
                refine (works_any _).mono ?_; rintro e w14 ⟨rfl, hbx⟩
                go_wp2_with fail
                go_ret
                exact ⟨rfl, (st.below hbx).bel⟩
              · have e2 : decide (3 < C) = false := by simpa using hy3
                have hsc := means_scale Hfa.out hib (by rw [HY.out]; omega) (by rw [HY.out]; omega)
                rw [HY.out, Hua.out] at hsc
                have Hsc := Lib.hid hsc
                have Hib := Lib.hid hib
                clear hsc hib hy1 hy3
                obtain ⟨A1, n1, c1, x0, x1, x2, hr1⟩ := st.val g4 a (by simp)
                have m0 : w13.cell? ⟨g6, 0, none⟩ = some (.int .i64 V) := hmu.cell 0
                have m1 : w13.cell? ⟨g6, 1, none⟩ = some (.int .u8 C) := hmu.cell 1
                go_wp2_with fail
                refine (scaleT_yes C V (.agg #[.bool a.never, .int .u8 a.c, .slice A1 n1 c1]) a w13 _ ⟨A1, n1, c1, rfl, hr1⟩ (Nat.le_refl _) Hib.out Hfa.out.1 (Nat.le_trans (great_vars HG' a (by simp)) (by omega))).mono ?_
                rintro e w14 ⟨A9, n9, c9, rfl, hr9, hb14⟩
                replace st := st.below hb14
                clear hb14 x0 x1 x2 hr1 hmu m0 m1
                go_wp2_with fail
                replace st := st.alloc (Obj.cells #[.bool (scaleT C V a).never, .int .u8 (scaleT C V a).c, .slice A9 n9 c9] 25)
                replace hr9 := hr9.fresh (below_box (Obj.cells #[.bool (scaleT C V a).never, .int .u8 (scaleT C V a).c, .slice A9 n9 c9] 25)) (Nat.le_refl _)
                refine (at_fine (.agg #[.bool (scaleT C V a).never, .int .u8 (scaleT C V a).c, .slice A9 n9 c9]) (scaleT C V a) _ _ _ asg _ ⟨A9, n9, c9, rfl, hr9⟩ (st.rd Ha.out) Hsc.out.1).mono ?_; rintro e w15 ⟨rfl, hb15⟩
                rw [Hsc.out.2]
                replace st := st.below hb15
                clear hb15 hr9
                go_wp2_with fail
                refine (scale_any C u w15).mono ?_; rintro e w16 ⟨rfl, rfl⟩
                go_wp2_with fail
                refine (works_any _).mono ?_; rintro e w17 ⟨rfl, hbx⟩
                go_wp2_with fail
                go_ret
                exact ⟨rfl, (st.below hbx).bel⟩
      · have d1 : (E == 0) = true := by simp [h0]
        have d2 : (E' != 0) = true := by simp [h0']
        have d3 : (E != 0) = false := by simp [h0]
        go_wp2_with fail
        refine (works_any _).mono ?_; rintro e w5 ⟨rfl, hbx⟩
        go_wp2_with fail
        go_ret
        exact ⟨rfl, (st.below hbx).bel⟩
    · have d3 : (E != 0) = true := by simp [h0]
      go_wp2_with fail
      refine (works_any _).mono ?_; rintro e w5 ⟨rfl, hbx⟩
      go_wp2_with fail
      go_ret
      exact ⟨rfl, (st.below hbx).bel⟩
  · go_wp2_with fail
    refine (works_any _).mono ?_; rintro e w3 ⟨rfl, hb3⟩
    go_wp2_with fail
    go_ret
    exact ⟨rfl, (st.below hb3).bel⟩

theorem walk_termMeans (v1 : Value) (w : World) (h1 : TermIn w v1) (v2 : Value) (h2 : TermIn w v2) (v3 : Value) (h3 : MuIn v3) (v4 : Value) (h4 : MultsIn w v4) :
    Calls Try.prog 6 #[v1, v2, v3, v4] w fun e w' => e = .returned (.bool true) ∧ Below w.heap.size w w' := by
  obtain ⟨a, ⟨A, n, c, rfl, hr⟩, _⟩ := h1
  obtain ⟨b, ⟨A2, n2, c2, rfl, hr2⟩, _⟩ := h2
  obtain ⟨V, C, rfl, hC, _⟩ := h3
  obtain ⟨A', n', c', asg, rfl, ha, _⟩ := h4
  exact walkA_termMeans A n c a A2 n2 c2 b V C A' n' c' asg w hr hr2 ha hC

/-! ### the row's step -/
namespace termMeans
set_option maxRecDepth 100000 in
theorem lifted (os : Os) (started : os.Started) (H : Type) (enc : TypeId × Value → H) :
    ReturnsInHanded {} Try.checked os 6 .any (Rows.termMeansSpec.pre6 enc Try.prog Try.f6 Rows.termMeansRow.domain false) (Rows.termMeansSpec.post enc Try.prog Try.f6 false true false false) := by
  refine returnsInHanded_of_change_sized (C := Try.checked) own started (by kernel_rfl) Try.func6
    (ChangeSpec.witness6 (enc := enc) (C := Try.checked) false ⟨#[], #[.agg #[.bool false, .int .u8 0, .slice none 0 0], .agg #[.bool false, .int .u8 0, .slice none 0 0], .agg #[.int .i64 0, .int .u8 0], .slice none 0 0], []⟩ 8 (by kernel_rfl) (by kernel_rfl) (by kernel_rfl) (by kernel_rfl)) ?_
  intro W base args ds gs before hval0 hW hcnd hsz0 _
  have hsz : (DataW.weightsEach Try.prog (Try.f6.params.toList ++ Rows.termMeansSpec.plain.varTypes Try.prog) (ds ++ gs)).all (· ≤ reachBytes) = true := hsz0
  have hval : ∀ (j : Nat) t v, Try.f6.params[j]? = some t → args[j]? = some v → Value.okWide Try.prog W .any base t v := hval0
  have hW' := hW
  obtain ⟨p, q, hA0, hV, rfl, hfz, hnd⟩ := hW
  have hA : DataW.TrodAll enc Try.prog W 0 (fun _ => true) true Try.f6.params.toList args.toList ds p := hA0
  rw [Try.params6] at hA hval hsz
  obtain ⟨v0, vs0, d0, ds0, p0, q0, hargs, rfl, rfl, h0, r_0⟩ := trodAll_cons hA
  obtain ⟨v1, vs1, d1, ds1, p1, q1, rfl, rfl, rfl, h1, r_1⟩ := trodAll_cons r_0
  obtain ⟨v2, vs2, d2, ds2, p2, q2, rfl, rfl, rfl, h2, r_2⟩ := trodAll_cons r_1
  obtain ⟨v3, vs3, d3, ds3, p3, q3, rfl, rfl, rfl, h3, r_3⟩ := trodAll_cons r_2
  obtain ⟨rfl, rfl, rfl⟩ := trodAll_nil r_3
  obtain rfl : args = #[v0, v1, v2, v3] := by cases args; simp_all
  obtain ⟨rfl, rfl⟩ := trodVars_none hV
  have w0 := rd_term (hval 0 25 v0 rfl rfl) h0
  have w1 := rd_term (hval 1 25 v1 rfl rfl) h1
  have w2 := rd_mu (hval 2 47 v2 rfl rfl) h2
  have w3 := rd_mults (hval 3 31 v3 rfl rfl) h3
  refine (walk_termMeans (w := W) v0 w0 v1 w1 v2 w2 v3 w3).mono fun e W' ⟨he, bel⟩ => ?_
  subst he
  exact ⟨_, rfl, law_post laidOut (by kernel_rfl) rfl rfl Try.underlying4 hW' rfl rfl rfl bel⟩
theorem over : Rows.termMeansRow.holds Try.pinned (OpenSpec.ofChange Rows.termMeansSpec) :=
  OpenClaim.holds_of_wide 6 Try.f6 rfl rfl rfl rfl rfl rfl rfl ⟨rfl, rfl, rfl, rfl, rfl⟩ rfl rfl rfl rfl rfl (by kernel_rfl) Try.func6 (by kernel_rfl)
    (of_decide_eq_true (by kernel_rfl)) (by unfold Func.isWrapper; first | (rw [if_pos (by decide +kernel)]; kernel_rfl) | (rw [if_neg (by decide +kernel)]; exact ⟨rfl, rfl⟩))
    (fun os started H enc _ => lifted os started H enc)
/-- the statement -/
theorem proved : Rows.TermMeansSaid := over
#print axioms proved
end termMeans
end Go.Proofs.Ytbccnfgceabopaa
