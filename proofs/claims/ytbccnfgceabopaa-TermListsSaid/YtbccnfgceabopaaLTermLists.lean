/- TermLists holds for every input: any number of terms are joined and summed as the document says. No conditions. -/
import Derived.Test.YtbccnfgceabopaaLawT
import Derived.Test.YtbccnfgceabopaaBox
import Derived.Test.YtbccnfgceabopaaRefS
import Derived.Test.YtbccnfgceabopaaRefW
import Derived.Test.YtbccnfgceabopaaRowT
import Derived.RegionTactic
import Derived.Deep.DrawnRows
namespace Go.Proofs.Ytbccnfgceabopaa
set_option linter.unusedVariables false
set_option linter.unusedSimpArgs false
open Go.ChangeShapes Go.WideShapes Go.ChangeAt Go.RowKit
attribute [local go_sem ↓] Go.wp_at_zero Go.wp_at_succ

theorem join_any_t (A : Option Addr) (n c : Nat) (ts : List TermD) (w : World) (hr : TermsV w w.heap.size A n c ts) (hn : n ≤ 1099511627776) (hsum : (joinVs ts).length ≤ 1099511627776) :
    Calls Try.prog 14 #[.slice A n c] w (RetTE (if allMay ts then joinT ts else zeroT) (if allMay ts then 0 else 2) w) := by
  cases h : allMay ts
  · exact join_no A n c ts w hr h
  · exact join_yes A n c ts w hr h hn hsum
theorem sum_any_t (A : Option Addr) (n c : Nat) (ts : List TermD) (w : World) (hr : TermsV w w.heap.size A n c ts) (hn : n ≤ 1099511627776) (hsum : ∀ t ∈ ts, t.vars.length ≤ 1099511627776) :
    Calls Try.prog 15 #[.slice A n c] w (RetTE (if allMay ts then sumT ts else zeroT) (if allMay ts then 0 else 2) w) := by
  cases h : allMay ts
  · exact sum_no A n c ts w hr h
  · exact sum_yes A n c ts w hr h hn hsum

theorem compact_le' (l : List Int) : (sset l).length ≤ l.length := by
  have := compact_le (l.mergeSort fun x y => decide (x ≤ y))
  rw [List.length_mergeSort] at this
  exact this
theorem joinT_len (l : List TermD) : (joinT l).vars.length ≤ (joinVs l).length := by
  unfold joinT
  split
  · simp
  · unfold cleanT
    simp only
    split
    · simp
    · exact Nat.le_trans (compact_le' _) (by
        have : List.Sublist (someT l) l := List.filter_sublist
        have := joinVs_sub this
        simpa using this)
/-- where the loop stands: what its variables hold -/
def LS (w wr : World) (g3 g5 g7 g8 : Nat) (X Y : TermD) (ts : List TermD) (k : Nat) (A : Option Addr) (n c : Nat) : Prop :=
  BoxT wr g3 X ∧ BoxT wr g5 Y ∧ BoxT wr g7 (joinT (ts.take k)) ∧ BoxT wr g8 (sumT (ts.take k)) ∧ (∀ t ∈ ts.take k, mayB t = true) ∧ Below w.heap.size w wr ∧ TermsV wr w.heap.size A n c ts

theorem LS.below {w wr w' : World} {g3 g5 g7 g8 : Nat} {X Y : TermD} {ts : List TermD} {k : Nat} {A : Option Addr} {n c : Nat} (h : LS w wr g3 g5 g7 g8 X Y ts k A n c) (hb : Below wr.heap.size wr w') : LS w w' g3 g5 g7 g8 X Y ts k A n c := by
  obtain ⟨h1, h2, h3, h4, h5, h6, h7⟩ := h
  exact ⟨h1.below hb, h2.below hb, h3.below hb, h4.below hb, h5, h6.trans (hb.mono h6.size), h7.below (hb.mono h6.size)⟩
theorem LS.alloc {w wr : World} {g3 g5 g7 g8 : Nat} {X Y : TermD} {ts : List TermD} {k : Nat} {A : Option Addr} {n c : Nat} (h : LS w wr g3 g5 g7 g8 X Y ts k A n c) (o : Obj) : LS w (wr.alloc o) g3 g5 g7 g8 X Y ts k A n c := h.below (below_box o)

theorem LS.drew {w wr : World} {g3 g5 g7 g8 : Nat} {X Y : TermD} {ts : List TermD} {k : Nat} {A : Option Addr} {n c : Nat} (h : LS w wr g3 g5 g7 g8 X Y ts k A n c) : LS w wr.drew g3 g5 g7 g8 X Y ts k A n c := h.below ((Below.refl _ _).drew)
theorem LS.put {w wr : World} {g3 g5 g7 g8 : Nat} {X Y : TermD} {ts : List TermD} {k : Nat} {A : Option Addr} {n c : Nat} (h : LS w wr g3 g5 g7 g8 X Y ts k A n c) (h0 : w.heap.size ≤ g3) (h35 : g3 < g5) (h57 : g5 < g7) (h78 : g7 < g8)
    {J S : TermD} {Aj As : Option Addr} {nj cj ns cs : Nat} (hj : joinT (ts.take (k + 1)) = J) (hs : sumT (ts.take (k + 1)) = S) (hm : ∀ t ∈ ts.take (k + 1), mayB t = true) (hrj : RdI .i64 wr wr.heap.size Aj nj cj J.vars) (hrs : RdI .i64 wr wr.heap.size As ns cs S.vars) :
    LS w (st3 (st3 wr g7 (.bool J.never) (.int .u8 J.c) (.slice Aj nj cj)) g8 (.bool S.never) (.int .u8 S.c) (.slice As ns cs)) g3 g5 g7 g8 X Y ts (k + 1) A n c := by
  obtain ⟨h1, h2, h3, h4, h5, h6, h7⟩ := h
  have a1 := h1.far h3 (by omega) (.bool J.never) (.int .u8 J.c) (.slice Aj nj cj)
  have a2 := h2.far h3 (by omega) (.bool J.never) (.int .u8 J.c) (.slice Aj nj cj)
  have a3 := h3.store (u := J) hrj
  have a4 := h4.far h3 (by omega) (.bool J.never) (.int .u8 J.c) (.slice Aj nj cj)
  have a5 := hrs.box h3 (.bool J.never) (.int .u8 J.c) (.slice Aj nj cj)
  have a6 := below_st3 h6 (g := g7) (by omega) (.bool J.never) (.int .u8 J.c) (.slice Aj nj cj)
  have b6 := below_st3 a6 (g := g8) (by omega) (.bool S.never) (.int .u8 S.c) (.slice As ns cs)
  refine ⟨a1.far a4 (by omega) _ _ _, a2.far a4 (by omega) _ _ _, ?_, ?_, hm, b6, ?_⟩
  · rw [hj]; exact a3.far a4 (by omega) _ _ _
  · rw [hs]; exact a4.store (u := S) a5
  · refine h7.keep fun p hp => ?_
    have c1 : ∀ (W : World) (g o : Nat) (u : Value), w.heap.size ≤ g → (W.setCell ⟨g, o, none⟩ u).cell? p = W.cell? p := fun W g o u hg => World.cell?_setCell_other _ _ _ _ (fun e => by rw [← e] at hp; exact absurd hp (by show ¬ g < _; omega))
    rw [c1 _ _ _ _ (by omega), c1 _ _ _ _ (by omega), c1 _ _ _ _ (by omega), c1 _ _ _ _ (by omega), c1 _ _ _ _ (by omega), c1 _ _ _ _ (by omega)]

set_option maxHeartbeats 2000000 in
theorem walkA_termLists (A : Option Addr) (n c : Nat) (ts : List TermD) (w : World) (hr : TermsV w w.heap.size A n c ts) (hbig : n * 32 ≤ 140737488355328) :
    Calls Try.prog 4 #[.slice A n c] w fun e w' => e = .returned (.bool true) ∧ Below w.heap.size w w' := by
  by_cases h60 : 60 < n
  · go_enter Try.func4, Try.ntmps4
    go_wp2_with fail
    refine (works_any _).mono ?_; rintro e w1 ⟨rfl, hb1⟩
    go_wp2_with fail
    go_ret
    exact ⟨rfl, hb1⟩
  · have hgr := great_any A n c ts w hr hbig
    obtain ⟨G, hG⟩ : ∃ G, greatB ts = G := ⟨_, rfl⟩
    rw [hG] at hgr
    have HG := Lib.hid hG
    have Hgr := Lib.hid hgr
    clear hG hgr
    cases G
    · go_enter Try.func4, Try.ntmps4
      go_wp2_with fail
      refine Hgr.out.mono ?_; rintro e w1 ⟨rfl, hb1⟩
      have hts1 := (hr.below hb1).more (B' := w1.heap.size) hb1.size
      have hvl := great_vars HG.out
      have hsl := great_sum HG.out
      have Hvl := Lib.hid hvl
      have Hsl := Lib.hid hsl
      have Hr0 := Lib.hid hr
      clear hvl hsl hr
      go_wp2_with fail
      have hj := join_any_t A n c ts _ hts1 (by omega) (Nat.le_trans Hsl.out (by omega))
      have hn60 : n ≤ 60 := by omega
      have hs := fun w3 (hts3 : TermsV w3 w3.heap.size A n c ts) => sum_any_t A n c ts w3 hts3 (by omega) (fun t ht => Nat.le_trans (Hvl.out t ht) (by omega))
      obtain ⟨X, hX⟩ : ∃ X, (if allMay ts then joinT ts else zeroT) = X := ⟨_, rfl⟩
      obtain ⟨Y, hY⟩ : ∃ Y, (if allMay ts then sumT ts else zeroT) = Y := ⟨_, rfl⟩
      obtain ⟨E, hE⟩ : ∃ E : Int, (if allMay ts then 0 else 2) = E := ⟨_, rfl⟩
      rw [hX, hE] at hj
      simp only [hY, hE] at hs
      have HX := Lib.hid hX
      have HY := Lib.hid hY
      have HE := Lib.hid hE
      have Hs := Lib.hid hs
      have Hj := Lib.hid hj
      clear hX hY hE hs hj
      refine Hj.out.mono ?_
      rintro e w2 ⟨A2, n2, c2, rfl, hr2, hb2⟩
      clear Hj
      have hts2 := (hts1.below hb2).more (B' := w2.heap.size) hb2.size
      have hbel2 := hb1.trans (hb2.mono hb1.size)
      clear hb1 hb2 hts1
      go_wp2_with fail
      have hx := BoxT.new X hr2
      have hts3 := hts2.below (below_box (Obj.cells #[.bool X.never, .int .u8 X.c, .slice A2 n2 c2] 25))
      have hbel3 := hbel2.alloc hbel2.size (Obj.cells #[.bool X.never, .int .u8 X.c, .slice A2 n2 c2] 25)
      have hz3 : (w2.alloc (Obj.cells #[.bool X.never, .int .u8 X.c, .slice A2 n2 c2] 25)).heap.size = w2.heap.size + 1 := by simp
      generalize w2.alloc (Obj.cells #[.bool X.never, .int .u8 X.c, .slice A2 n2 c2] 25) = w3 at hx hts3 hbel3 hz3 ⊢
      have hb2s := hbel2.size
      generalize w2.heap.size = g3 at hx hts3 hz3 hb2s ⊢
      replace hts3 := hts3.more (B' := w3.heap.size) (by omega)
      have hw3 : w.heap.size ≤ g3 := hb2s
      clear hz3 hr2 hts2 hbel2
      refine (Hs.out w3 hts3).mono ?_
      rintro e w4 ⟨A4, n4, c4, rfl, hr4, hb4⟩
      clear Hs
      have hts4 := (hts3.below hb4).more (B' := w4.heap.size) hb4.size
      have hbel4 := hbel3.trans (hb4.mono hbel3.size)
      replace hx := hx.below hb4
      have hg3 := hx.lt
      clear hb4 hts3 hbel3
      go_wp2_with fail
      have hy := BoxT.new Y hr4
      have hx5 := hx.alloc (Obj.cells #[.bool Y.never, .int .u8 Y.c, .slice A4 n4 c4] 25)
      have hz5 : (w4.alloc (Obj.cells #[.bool Y.never, .int .u8 Y.c, .slice A4 n4 c4] 25)).heap.size = w4.heap.size + 1 := by simp
      have hts5 := (hts4.below (below_box (Obj.cells #[.bool Y.never, .int .u8 Y.c, .slice A4 n4 c4] 25))).more (B' := w4.heap.size + 1) (by omega)
      have hbel5 := hbel4.alloc hbel4.size (Obj.cells #[.bool Y.never, .int .u8 Y.c, .slice A4 n4 c4] 25)
      generalize w4.alloc (Obj.cells #[.bool Y.never, .int .u8 Y.c, .slice A4 n4 c4] 25) = w5 at hy hx5 hts5 hbel5 hz5 ⊢
      generalize w4.heap.size = g5 at hg3 hy hts5 hz5 ⊢
      rw [← hz5] at hts5
      clear hx hr4 hts4 hbel4
      rw [← hz5]
      have hg5 := hy.lt
      have hN : RdI .i64 w5 w5.heap.size none 0 0 [] := RdI.nil
      have hj6 := BoxT.new ⟨true, 0, []⟩ hN
      have hx6 := hx5.alloc (Obj.cells #[.bool true, .int .u8 0, .slice none 0 0] 25)
      have hy6 := hy.alloc (Obj.cells #[.bool true, .int .u8 0, .slice none 0 0] 25)
      have hz6 : (w5.alloc (Obj.cells #[.bool true, .int .u8 0, .slice none 0 0] 25)).heap.size = w5.heap.size + 1 := by simp
      have hts6 := (hts5.below (below_box (Obj.cells #[.bool true, .int .u8 0, .slice none 0 0] 25))).more (B' := w5.heap.size + 1) (by omega)
      have hbel6 := hbel5.alloc hbel5.size (Obj.cells #[.bool true, .int .u8 0, .slice none 0 0] 25)
      generalize w5.alloc (Obj.cells #[.bool true, .int .u8 0, .slice none 0 0] 25) = w6 at hj6 hx6 hy6 hz6 hts6 hbel6 ⊢
      generalize w5.heap.size = g7 at hz5 hg5 hj6 hz6 hts6 ⊢
      rw [← hz6] at hts6
      clear hN hx5 hy hts5 hbel5
      have hg7 := hj6.lt
      have hN : RdI .i64 w6 w6.heap.size none 0 0 [] := RdI.nil
      have hs7 := BoxT.new ⟨true, 0, []⟩ hN
      have hx7 := hx6.alloc (Obj.cells #[.bool true, .int .u8 0, .slice none 0 0] 25)
      have hy7 := hy6.alloc (Obj.cells #[.bool true, .int .u8 0, .slice none 0 0] 25)
      have hj7 := hj6.alloc (Obj.cells #[.bool true, .int .u8 0, .slice none 0 0] 25)
      have hz7 : (w6.alloc (Obj.cells #[.bool true, .int .u8 0, .slice none 0 0] 25)).heap.size = w6.heap.size + 1 := by simp
      have hts7 := (hts6.below (below_box (Obj.cells #[.bool true, .int .u8 0, .slice none 0 0] 25))).more (B' := w6.heap.size + 1) (by omega)
      have hbel7 := hbel6.alloc hbel6.size (Obj.cells #[.bool true, .int .u8 0, .slice none 0 0] 25)
      generalize w6.alloc (Obj.cells #[.bool true, .int .u8 0, .slice none 0 0] 25) = w7 at hs7 hj7 hx7 hy7 hz7 hts7 hbel7 ⊢
      generalize w6.heap.size = g8 at hz6 hg7 hs7 hz7 hts7 ⊢
      rw [← hz7] at hts7
      clear hN hx6 hy6 hj6 hts6 hbel6
      have hg3' : w.heap.size ≤ g3 := hw3
      have hLS : LS w w7 g3 g5 g7 g8 X Y ts 0 A n c := ⟨hx7, hy7, hj7, hs7, by simp, hbel7, Hr0.out.below hbel7⟩
      clear hx7 hy7 hj7 hs7 hbel7 hts7 hz7 hg7
      try rw [← hz6]
      have h35 : g3 < g5 := hg3
      have h57 : g5 < g7 := by first | exact hg5 | omega
      have h78 : g7 < g8 := by omega
      have n78 : ¬ g7 = g8 := by omega
      have n87 : ¬ g8 = g7 := by omega
      clear hz6 hz5
      go_loopg [9, 10, 33] n (fun g _ _ i wr => ∃ k : Nat, k ≤ n ∧ g = n - k ∧ i = .int .i64 k ∧ LS w wr g3 g5 g7 g8 X Y ts k A n c)
      case atStart => exact ⟨0, Nat.zero_le _, rfl, rfl, hLS⟩
      case round =>
        obtain ⟨k, hk, rfl, rfl, hL⟩ := hrel
        clear hLS
        by_cases hlt : k < n
        · have hk' : k < ts.length := by rw [hL.2.2.2.2.2.2.1]; exact hlt
          obtain ⟨b, off, rfl, hb, hcell⟩ := hL.2.2.2.2.2.2.2.2.2 (by omega)
          obtain ⟨A', n', c', e0, e1, e2, hr'⟩ := hcell k hk'
          have ht : ts.take (k + 1) = ts.take k ++ [ts[k]] := List.take_succ_eq_append_getElem hk'
          have Ht := Lib.hid ht
          have Hr' := Lib.hid (hr'.more (B' := wr.heap.size) hL.2.2.2.2.2.1.size)
          have HL := Lib.hid hL
          clear hL hcell hr' ht
          go_wp2_with fail
          have hL1 := HL.out.alloc (Obj.cells #[.bool (ts[k]).never, .int .u8 (ts[k]).c, .slice A' n' c'] 25)
          have hx1 := BoxT.new ts[k] Hr'.out
          have hr1 := Hr'.out.fresh (below_box (Obj.cells #[.bool (ts[k]).never, .int .u8 (ts[k]).c, .slice A' n' c'] 25)) (Nat.le_refl _)
          generalize wr.alloc (Obj.cells #[.bool (ts[k]).never, .int .u8 (ts[k]).c, .slice A' n' c'] 25) = w1 at hL1 hx1 hr1 ⊢
          have hgt : g8 < wr.heap.size := HL.out.2.2.2.1.lt
          generalize wr.heap.size = g10 at hx1 hgt ⊢
          clear e0 e1 e2 HL Hr' hb
          refine (refMay_t (.agg #[.bool (ts[k]).never, .int .u8 (ts[k]).c, .slice A' n' c']) ts[k] w1 _ ⟨A', n', c', rfl, hr1⟩ (Nat.le_refl _)).mono ?_; rintro e w2 ⟨rfl, hb2⟩
          have hL2 := hL1.below hb2
          have hx2 := hx1.below hb2
          have hr2 := hr1.fresh hb2 (Nat.le_refl _)
          clear hL1 hx1 hr1 hb2
          cases hm : mayB ts[k]
          · have hall : allMay ts = false := by
              unfold allMay
              rw [List.all_eq_false]
              exact ⟨_, List.getElem_mem hk', by simp [hm]⟩
            have HE2 : Hid (E = 2) := by
              show _ = _
              rw [← HE.out, hall]; rfl
            have hE2 : (E == 2) = true := by simp [HE2.out]
            have HL2 := Lib.hid hL2
            clear hm hall hx2 hr2 hL2
            go_wp2_with fail
            refine (works_any _).mono ?_; rintro e w3 ⟨rfl, hb3⟩
            go_wp2_with fail
            go_ret
            exact ⟨rfl, HL2.out.2.2.2.2.2.1.trans (hb3.mono HL2.out.2.2.2.2.2.1.size)⟩
          · have Hm := Lib.hid hm
            clear hm
            by_cases hk0 : k = 0
            · subst hk0
              have HL2 := Lib.hid hL2
              obtain ⟨Ax, nx, cx, x0, x1, x2, _, _, _, hrx⟩ := hx2.val
              obtain ⟨Aj, nj, cj, j0, j1, j2, fj0, fj1, fj2, hrj⟩ := hL2.2.2.1.val
              obtain ⟨As, ns, cs, s0, s1, s2, fs0, fs1, fs2, hrs⟩ := hL2.2.2.2.1.val
              have hmm : ∀ t ∈ ts.take (0 + 1), mayB t = true := by
                rw [Ht.out]
                intro t ht
                simp at ht
                subst ht
                exact Hm.out
              have hL3 := Lib.hid (hL2.put hw3 h35 h57 h78 (J := ts[0]) (S := ts[0]) (by rw [Ht.out]; exact joinT_one Hm.out) (by rw [Ht.out]; exact sumT_one Hm.out) hmm hrx hrx)
              clear hL2 hx2 hr2 hrx hrj hrs hmm
              go_wp2_with fail
              go_region
              all_goals
                go_wp2_with fail
                go_roundg (n - (0 + 1))
                case measure => omega
                case rel => exact ⟨0 + 1, by omega, rfl, by go_num, LS.drew hL3.out⟩
            · have hk1 : ((k : Int) == 0) = false := by simp; omega
              have HL2 := Lib.hid hL2
              obtain ⟨J, hJ⟩ : ∃ J, joinT (ts.take k) = J := ⟨_, rfl⟩
              obtain ⟨S, hS⟩ : ∃ S, sumT (ts.take k) = S := ⟨_, rfl⟩
              have hLj := hL2.2.2.1
              have hLs := hL2.2.2.2.1
              rw [hJ] at hLj
              rw [hS] at hLs
              obtain ⟨Ax, nx, cx, x0, x1, x2, _, _, _, hrx⟩ := hx2.val
              obtain ⟨Aj, nj, cj, j0, j1, j2, fj0, fj1, fj2, hrj⟩ := hLj.val
              obtain ⟨As, ns, cs, s0, s1, s2, fs0, fs1, fs2, hrs⟩ := hLs.val
              have hg10 := hx2.lt
              have hg8 := hLs.lt
              have hg7 := hLj.lt
              have hbig2 : J.vars.length + (ts[k]).vars.length ≤ 1099511627776 := by
                have q1 := joinT_len (ts.take k)
                have q2 := joinVs_sub (List.take_sublist k ts)
                have q3 := Hsl.out
                have q4 := Hvl.out ts[k] (List.getElem_mem hk')
                rw [hJ] at q1
                omega
              have Hbig2 := Lib.hid hbig2
              have Hrx := Lib.hid hrx
              have Hrj := Lib.hid hrj
              have Hrs := Lib.hid hrs
              clear hL2 hx2 hr2 hrx hrj hrs hLj hLs hbig2
              have hmm : ∀ t ∈ ts.take k, mayB t = true := HL2.out.2.2.2.2.1
              have hne : ts.take k ≠ [] := by
                intro e
                have := congrArg List.length e
                rw [List.length_take, List.length_nil] at this
                omega
              have HJ' := Lib.hid (show joinT (ts.take (k + 1)) = rJoin J ts[k] by rw [Ht.out, ← rJoin_snoc hne hmm Hm.out, hJ])
              have HS' := Lib.hid (show sumT (ts.take (k + 1)) = rSum S ts[k] by rw [Ht.out, ← rSum_snoc Hm.out, hS])
              have Hmm := Lib.hid (show ∀ t ∈ ts.take (k + 1), mayB t = true by
                rw [Ht.out]
                intro t ht
                rcases List.mem_append.1 ht with h | h
                · exact hmm t h
                · rw [List.mem_singleton] at h; subst h; exact Hm.out)
              clear hJ hS hmm hne
              go_wp2_with fail
              go_region_with ((first | (go_at_call 17; refine (refJoin_t (.agg #[.bool J.never, .int .u8 J.c, .slice Aj nj cj]) (.agg #[.bool (ts[k]).never, .int .u8 (ts[k]).c, .slice Ax nx cx]) J ts[k] _ w2.heap.size w2.heap.size (by exact ⟨Aj, nj, cj, rfl, Hrj.out⟩) (by exact ⟨Ax, nx, cx, rfl, Hrx.out⟩) (by exact Nat.le_refl _) (by exact Nat.le_refl _) Hbig2.out).mono ?_; rintro e w3 ⟨A3, n3, c3, rfl, hr3, hb3⟩; replace hb3 : Below w2.heap.size w2 w3 := ((Below.refl _ _).drew).trans hb3; have hg73 : g7 < w3.heap.size := Nat.lt_of_lt_of_le hg7 hb3.size; have hg83 : g8 < w3.heap.size := Nat.lt_of_lt_of_le hg8 hb3.size; have hrs3 := Lib.hid (Hrs.out.fresh hb3 (Nat.le_refl _)); have hrx3 := Lib.hid (Hrx.out.fresh hb3 (Nat.le_refl _)); have Hr3 := Lib.hid hr3; have q0 : w3.cell? ⟨g8, 0, none⟩ = some (.bool S.never) := (hb3.cell (p := ⟨g8, 0, none⟩) hg8).trans s0; have q1 : w3.cell? ⟨g8, 1, none⟩ = some (.int .u8 S.c) := (hb3.cell (p := ⟨g8, 1, none⟩) hg8).trans s1; have q2 : w3.cell? ⟨g8, 2, none⟩ = some (.slice As ns cs) := (hb3.cell (p := ⟨g8, 2, none⟩) hg8).trans s2; have y0 : w3.cell? ⟨g10, 0, none⟩ = some (.bool (ts[k]).never) := (hb3.cell (p := ⟨g10, 0, none⟩) hg10).trans x0; have y1 : w3.cell? ⟨g10, 1, none⟩ = some (.int .u8 (ts[k]).c) := (hb3.cell (p := ⟨g10, 1, none⟩) hg10).trans x1; have y2 : w3.cell? ⟨g10, 2, none⟩ = some (.slice Ax nx cx) := (hb3.cell (p := ⟨g10, 2, none⟩) hg10).trans x2; have z0 : w3.cell? ⟨g7, 0, none⟩ = some (.bool J.never) := (hb3.cell (p := ⟨g7, 0, none⟩) hg7).trans j0; have z1 : w3.cell? ⟨g7, 1, none⟩ = some (.int .u8 J.c) := (hb3.cell (p := ⟨g7, 1, none⟩) hg7).trans j1; have z2 : w3.cell? ⟨g7, 2, none⟩ = some (.slice Aj nj cj) := (hb3.cell (p := ⟨g7, 2, none⟩) hg7).trans j2; have p0 : w3.frozen? ⟨g7, 0, none⟩ = false := (hb3.frozen (p := ⟨g7, 0, none⟩) hg7).trans fj0; have p1 : w3.frozen? ⟨g7, 1, none⟩ = false := (hb3.frozen (p := ⟨g7, 1, none⟩) hg7).trans fj1; have p2 : w3.frozen? ⟨g7, 2, none⟩ = false := (hb3.frozen (p := ⟨g7, 2, none⟩) hg7).trans fj2; have r0 : w3.frozen? ⟨g8, 0, none⟩ = false := (hb3.frozen (p := ⟨g8, 0, none⟩) hg8).trans fs0; have r1 : w3.frozen? ⟨g8, 1, none⟩ = false := (hb3.frozen (p := ⟨g8, 1, none⟩) hg8).trans fs1; have r2 : w3.frozen? ⟨g8, 2, none⟩ = false := (hb3.frozen (p := ⟨g8, 2, none⟩) hg8).trans fs2; have Hb3 := Lib.hid hb3; clear hr3 hb3) | (go_at_call 18; refine (refSum_t (.agg #[.bool S.never, .int .u8 S.c, .slice As ns cs]) (.agg #[.bool (ts[k]).never, .int .u8 (ts[k]).c, .slice Ax nx cx]) S ts[k] _ w3.heap.size w3.heap.size (by exact ⟨As, ns, cs, rfl, hrs3.out⟩) (by exact ⟨Ax, nx, cx, rfl, hrx3.out⟩) (by exact Nat.le_refl _) (by exact Nat.le_refl _)).mono ?_; rintro e w4 ⟨A4', n4', c4', rfl, hr4, hb4⟩; have zz0 : w4.cell? ⟨g7, 0, none⟩ = some (.bool J.never) := (hb4.cell (p := ⟨g7, 0, none⟩) hg73).trans z0; have zz1 : w4.cell? ⟨g7, 1, none⟩ = some (.int .u8 J.c) := (hb4.cell (p := ⟨g7, 1, none⟩) hg73).trans z1; have zz2 : w4.cell? ⟨g7, 2, none⟩ = some (.slice Aj nj cj) := (hb4.cell (p := ⟨g7, 2, none⟩) hg73).trans z2; have qq0 : w4.cell? ⟨g8, 0, none⟩ = some (.bool S.never) := (hb4.cell (p := ⟨g8, 0, none⟩) hg83).trans q0; have qq1 : w4.cell? ⟨g8, 1, none⟩ = some (.int .u8 S.c) := (hb4.cell (p := ⟨g8, 1, none⟩) hg83).trans q1; have qq2 : w4.cell? ⟨g8, 2, none⟩ = some (.slice As ns cs) := (hb4.cell (p := ⟨g8, 2, none⟩) hg83).trans q2; have pp0 : w4.frozen? ⟨g7, 0, none⟩ = false := (hb4.frozen (p := ⟨g7, 0, none⟩) hg73).trans p0; have pp1 : w4.frozen? ⟨g7, 1, none⟩ = false := (hb4.frozen (p := ⟨g7, 1, none⟩) hg73).trans p1; have pp2 : w4.frozen? ⟨g7, 2, none⟩ = false := (hb4.frozen (p := ⟨g7, 2, none⟩) hg73).trans p2; have rr0 : w4.frozen? ⟨g8, 0, none⟩ = false := (hb4.frozen (p := ⟨g8, 0, none⟩) hg83).trans r0; have rr1 : w4.frozen? ⟨g8, 1, none⟩ = false := (hb4.frozen (p := ⟨g8, 1, none⟩) hg83).trans r1; have rr2 : w4.frozen? ⟨g8, 2, none⟩ = false := (hb4.frozen (p := ⟨g8, 2, none⟩) hg83).trans r2; have Hr4 := Lib.hid hr4; have Hb4 := Lib.hid hb4; clear hr4 hb4)))
              all_goals
                have HL4 := Lib.hid (((HL2.out.below Hb3.out).below Hb4.out).put hw3 h35 h57 h78 HJ'.out HS'.out Hmm.out (Hr3.out.fresh Hb4.out (Nat.le_refl _)) Hr4.out)
                go_wp2_with fail
                go_roundg (n - (k + 1))
                case measure => omega
                case rel => exact ⟨k + 1, by omega, rfl, by go_num, HL4.out⟩
        · have hkn : k = n := by omega
          subst hkn
          have htk : ts.take k = ts := List.take_of_length_le (by rw [hL.2.2.2.2.2.2.1]; exact Nat.le_refl _)
          have hall : allMay ts = true := by
            have := hL.2.2.2.2.1
            rw [htk] at this
            unfold allMay
            rw [List.all_eq_true]
            exact this
          have HE0 : Hid (E = 0) := by
            show _ = _
            rw [← HE.out, hall]; rfl
          have hE0 : (E == 0) = true := by simp [HE0.out]
          have hXJ : X = joinT (ts.take k) := by rw [htk, ← HX.out, hall]; rfl
          have hYS : Y = sumT (ts.take k) := by rw [htk, ← HY.out, hall]; rfl
          have hlx := hL.1
          have hly := hL.2.1
          have hlj := hL.2.2.1
          have hls := hL.2.2.2.1
          rw [← hXJ] at hlj
          rw [← hYS] at hls
          have hbel := hL.2.2.2.2.2.1
          clear hL hall htk hXJ hYS
          obtain ⟨Ax, nx, cx, x0, x1, x2, _, _, _, hrx⟩ := hlx.val
          obtain ⟨Aj, nj, cj, j0, j1, j2, _, _, _, hrj⟩ := hlj.val
          have Hrx := Lib.hid hrx
          have Hrj := Lib.hid hrj
          clear hrx hrj
          go_wp2_with fail
          refine (refSame_any (.agg #[.bool X.never, .int .u8 X.c, .slice Ax nx cx]) (.agg #[.bool X.never, .int .u8 X.c, .slice Aj nj cj]) X X wr _ _ ⟨Ax, nx, cx, rfl, Hrx.out⟩ ⟨Aj, nj, cj, rfl, Hrj.out⟩ (Nat.le_refl _) (Nat.le_refl _)).mono ?_
          rintro e w2 ⟨rfl, hb2⟩
          rw [show sameB X X = true from (sameB_iff X X).2 rfl]
          have hly2 := hly.below hb2
          have hls2 := hls.below hb2
          replace hbel := stepB hbel hb2
          clear hlx hly hlj hls hb2 x0 x1 x2 j0 j1 j2
          obtain ⟨Ay, ny, cy, y0, y1, y2, _, _, _, hry⟩ := hly2.val
          obtain ⟨As, ns, cs, s0, s1, s2, _, _, _, hrs⟩ := hls2.val
          have Hry := Lib.hid hry
          have Hrs := Lib.hid hrs
          clear hry hrs hly2 hls2
          go_wp2_with fail
          refine (refSame_any (.agg #[.bool Y.never, .int .u8 Y.c, .slice Ay ny cy]) (.agg #[.bool Y.never, .int .u8 Y.c, .slice As ns cs]) Y Y w2 _ _ ⟨Ay, ny, cy, rfl, Hry.out⟩ ⟨As, ns, cs, rfl, Hrs.out⟩ (Nat.le_refl _) (Nat.le_refl _)).mono ?_
          rintro e w3 ⟨rfl, hb3⟩
          rw [show sameB Y Y = true from (sameB_iff Y Y).2 rfl]
          replace hbel := stepB hbel hb3
          clear hb3
          go_wp2_with fail
          refine (works_any _).mono ?_; rintro e w5 ⟨rfl, hb5⟩
          go_wp2_with fail
          go_ret
          exact ⟨rfl, stepB hbel hb5⟩
    · go_enter Try.func4, Try.ntmps4
      go_wp2_with fail
      refine Hgr.out.mono ?_; rintro e w1 ⟨rfl, hb1⟩
      go_wp2_with fail
      refine (works_any _).mono ?_; rintro e w2 ⟨rfl, hb2⟩
      go_wp2_with fail
      go_ret
      exact ⟨rfl, stepB hb1 hb2⟩

theorem walk_termLists (v : Value) (w : World) (h : TermsIn w v) :
    Calls Try.prog 4 #[v] w fun e w' => e = .returned (.bool true) ∧ Below w.heap.size w w' := by
  obtain ⟨A, n, c, ts, rfl, h1, h2⟩ := h
  exact walkA_termLists A n c ts w h1 h2

/-! ### the row's step -/
namespace termLists
set_option maxRecDepth 100000 in
theorem lifted (os : Os) (started : os.Started) (H : Type) (enc : TypeId × Value → H) :
    ReturnsInHanded {} Try.checked os 4 .any (Rows.termListsSpec.pre6 enc Try.prog Try.f4 Rows.termListsRow.domain false) (Rows.termListsSpec.post enc Try.prog Try.f4 false true false false) := by
  refine returnsInHanded_of_change_sized (C := Try.checked) own started (by kernel_rfl) Try.func4
    (ChangeSpec.witness6 (enc := enc) (C := Try.checked) false ⟨#[], #[.slice none 0 0], []⟩ 8 (by kernel_rfl) (by kernel_rfl) (by kernel_rfl) (by kernel_rfl)) ?_
  intro W base args ds gs before hval0 hW hcnd hsz0 _
  have hsz : (DataW.weightsEach Try.prog (Try.f4.params.toList ++ Rows.termListsSpec.plain.varTypes Try.prog) (ds ++ gs)).all (· ≤ reachBytes) = true := hsz0
  have hval : ∀ (j : Nat) t v, Try.f4.params[j]? = some t → args[j]? = some v → Value.okWide Try.prog W .any base t v := hval0
  have hW' := hW
  obtain ⟨p, q, hA0, hV, rfl, hfz, hnd⟩ := hW
  have hA : DataW.TrodAll enc Try.prog W 0 (fun _ => true) true Try.f4.params.toList args.toList ds p := hA0
  rw [Try.params4] at hA hval hsz
  obtain ⟨v0, vs0, d0, ds0, p0, q0, hargs, rfl, rfl, h0, r_0⟩ := trodAll_cons hA
  obtain ⟨rfl, rfl, rfl⟩ := trodAll_nil r_0
  obtain rfl : args = #[v0] := by cases args; simp_all
  obtain ⟨rfl, rfl⟩ := trodVars_none hV
  have w0 := rd_terms (hval 0 35 v0 rfl rfl) h0 (fun t e el sp ht hu hd => by subst ht; subst hd; exact sized_slice hsz (j := 0) rfl rfl hu)
  refine (walk_termLists (w := W) v0 w0).mono fun e W' ⟨he, bel⟩ => ?_
  subst he
  exact ⟨_, rfl, law_post laidOut (by kernel_rfl) rfl rfl Try.underlying4 hW' rfl rfl rfl bel⟩
theorem over : Rows.termListsRow.holds Try.pinned (OpenSpec.ofChange Rows.termListsSpec) :=
  OpenClaim.holds_of_wide 4 Try.f4 rfl rfl rfl rfl rfl rfl rfl ⟨rfl, rfl, rfl, rfl, rfl⟩ rfl rfl rfl rfl rfl (by kernel_rfl) Try.func4 (by kernel_rfl)
    (of_decide_eq_true (by kernel_rfl)) (by unfold Func.isWrapper; first | (rw [if_pos (by decide +kernel)]; kernel_rfl) | (rw [if_neg (by decide +kernel)]; exact ⟨rfl, rfl⟩))
    (fun os started H enc _ => lifted os started H enc)
/-- the statement -/
theorem proved : Rows.TermListsSaid := over
#print axioms proved
end termLists
end Go.Proofs.Ytbccnfgceabopaa
