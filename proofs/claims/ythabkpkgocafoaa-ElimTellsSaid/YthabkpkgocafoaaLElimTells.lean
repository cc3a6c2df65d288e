/- ElimTells holds for every input: the table that Project tells is the document's. No conditions. -/
import Derived.Test.YthabkpkgocafoaaEaH
import Derived.Test.YthabkpkgocafoaaElimO
import Derived.Test.YthabkpkgocafoaaEaL
namespace Go.Proofs.Ythabkpkgocafoaa
set_option linter.unusedVariables false
set_option linter.unusedSimpArgs false
open Go.ChangeShapes Go.WideShapes Go.ChangeAt Go.RowKit

set_option maxRecDepth 100000 in
set_option maxHeartbeats 4000000 in
theorem walkA_elimTells (n : Int) (Al : Option Addr) (nl cl : Nat) (xs : List IneqD) (Ak : Option Addr) (nk ck : Nat) (keep : List Int) (w : World) (hx : IneqsV w w.heap.size Al nl cl xs) (hk : RdI .i64 w w.heap.size Ak nk ck keep) :
    Calls Try.prog 9 #[.int .i64 n, .slice Al nl cl, .slice Ak nk ck] w fun e w' => e = .returned (.bool true) ∧ Below w.heap.size w w' := by
  have hxl := hx.len
  have hkl := hk.len
  have Hx := Lib.hid hx
  have Hk := Lib.hid hk
  clear hx hk
  cases hG : great5 n nl nk with
  | true =>
    have HG := Lib.hid hG
    clear hG
    go_enter Try.func9, Try.ntmps9
    go_wp2_with fail
    refine (great5_any true n Al nl cl Ak nk ck w HG.out).mono ?_; rintro e w1 ⟨rfl, rfl⟩
    have Hbw := Lib.hid (Below.refl w.heap.size w)
    go_wp2_with fail
    refine (works5_any w).mono ?_
    rintro e w8 ⟨rfl, hb8⟩
    have Hb8 := Lib.hid (Hbw.out.trans (hb8.mono Hbw.out.size))
    clear hb8
    go_wp2_with fail
    go_ret
    exact ⟨by first | rfl | decide | simp, Hb8.out⟩
  | false =>
    obtain ⟨hn30, hl60, hk6⟩ := great5_no hG
    have HG := Lib.hid hG
    clear hG
    by_cases hok : OkS n [] xs
    · obtain ⟨N, hN⟩ : ∃ N : Nat, n = (N : Int) := ⟨n.toNat, (Int.toNat_of_nonneg hok.n0).symm⟩
      subst hN
      have Hok := Lib.hid hok
      clear hok
      go_enter Try.func9, Try.ntmps9
      go_wp2_with fail
      refine (great5_any false N Al nl cl Ak nk ck w HG.out).mono ?_; rintro e w1 ⟨rfl, rfl⟩
      go_wp2_with fail
      refine (project_any N Al nl cl xs Ak nk ck keep w Hx.out Hk.out).mono ?_
      rintro e w2 ⟨v, t, er, rfl, hv, hR, hb2⟩
      obtain ⟨A1, c1, A2, c2, A3, c3, rfl, hq1, hq2, hq3⟩ := hv
      have hT := blk_new w2 #[.slice A1 t.low.length c1, .slice A2 t.up.length c2, .slice A3 t.pair.length c3] 50
      have hbT := below_box (w := w2) (Obj.cells #[.slice A1 t.low.length c1, .slice A2 t.up.length c2, .slice A3 t.pair.length c3] 50)
      have hv : TabV w2 w2.heap.size (.agg #[.slice A1 t.low.length c1, .slice A2 t.up.length c2, .slice A3 t.pair.length c3]) t := ⟨_, _, _, _, _, _, rfl, hq1, hq2, hq3⟩
      replace hv := hv.fresh hbT
      have hb3 := hb2.trans (hbT.mono hb2.size)
      obtain ⟨w3, hw3⟩ : ∃ x, w2.alloc (Obj.cells #[.slice A1 t.low.length c1, .slice A2 t.up.length c2, .slice A3 t.pair.length c3] 50) = x := ⟨_, rfl⟩
      rw [hw3] at hT hv hb3
      have Hw3 := Lib.hid hw3
      have HR := Lib.hid hR
      have Hb3 := Lib.hid hb3
      have HTV : Hid (∀ W, Below w3.heap.size w3 W → Blk W w2.heap.size 50 #[.slice A1 t.low.length c1, .slice A2 t.up.length c2, .slice A3 t.pair.length c3] ∧ TabV W W.heap.size (.agg #[.slice A1 t.low.length c1, .slice A2 t.up.length c2, .slice A3 t.pair.length c3]) t) := Lib.hid fun W hW => ⟨hT.below hW hT.lt, hv.fresh hW⟩
      have Hx3 := Lib.hid ((Hx.out.below hb3).more hb3.size)
      have Hk3 := Lib.hid ((Hk.out.below hb3).more hb3.size)
      clear hT hbT hv hb2 hb3 hw3 hR hq1 hq2 hq3
      go_wp2_with fail
      rw [Hw3.out]
      refine (refMay4_any true N none 0 0 [] Al nl cl xs w3 RdI.nil Hx3.out ⟨fun _ => Hok.out, fun _ => rfl⟩).mono ?_
      rintro e w4 ⟨rfl, hb4⟩
      have Hx4 := Lib.hid ((Hx3.out.below hb4).more hb4.size)
      have Hk4 := Lib.hid ((Hk3.out.below hb4).more hb4.size)
      have H34 := Lib.hid hb4
      clear hb4 Hx3 Hk3
      go_wp2_with fail
      refine (refSolve_any N (by omega) none 0 0 [] Al nl cl xs w4 RdI.nil Hx4.out Hok.out).mono ?_
      rintro e w5 ⟨A4, m4, c4, a4, ok4, rfl, hr4, hR4, hb5⟩
      have Hb34 := Lib.hid (H34.out.trans (hb5.mono H34.out.size))
      have Hb4 := Lib.hid (Hb3.out.trans (Hb34.out.mono Hb3.out.size))
      have Hx5 := Lib.hid ((Hx4.out.below hb5).more hb5.size)
      have Hk5 := Lib.hid ((Hk4.out.below hb5).more hb5.size)
      clear hb5 hr4 H34 Hx4 Hk4
      cases ok4 with
      | false =>
        obtain ⟨rfl, ht⟩ := HR.out.none (by omega) (by omega) Hok.out (by omega) fun f hf => (hR4.2 rfl).2 f hf.solv1
        have Ht := Lib.hid ht
        clear ht hR4 HR
        obtain ⟨hT4, hv4⟩ := HTV.out _ Hb34.out
        have x0 := hT4.cell 0
        have x1 := hT4.cell 1
        have x2 := hT4.cell 2
        simp only [List.getElem?_toArray, List.getElem?_cons_zero, List.getElem?_cons_succ] at x0 x1 x2
        have Hv4 := Lib.hid hv4
        clear hT4 hv4
        go_wp2_with fail
        refine (tabSame_any (t := t) (u := emptyT) (r := true) (by rw [Ht.out]; decide) _ _ w5 Hv4.out (TabV.empty w5 _)).mono ?_
        rintro e w7 ⟨rfl, hb7⟩
        have Hbw := Lib.hid (Hb4.out.trans (hb7.mono Hb4.out.size))
        clear hb7 x0 x1 x2
        go_wp2_with fail
        refine (works5_any w7).mono ?_
        rintro e w8 ⟨rfl, hb8⟩
        have Hb8 := Lib.hid (Hbw.out.trans (hb8.mono Hbw.out.size))
        clear hb8
        go_wp2_with fail
        go_ret
        exact ⟨by first | rfl | decide | simp, Hb8.out⟩
      | true =>
        have hsol := hR4.1 rfl
        rw [low0_nil] at hsol
        have Hsol := Lib.hid (least_ones Hok.out.well hsol).1
        clear hsol hR4
        by_cases hkeep : KeepOk (N : Int) keep
        · have h0 := HR.out.yes (by omega) (by omega) Hok.out (by omega) Hsol.out hkeep
          subst h0
          obtain ⟨N', hN', htab⟩ := HR.out.table rfl
          obtain rfl : N = N' := by omega
          have Href := Lib.hid htab.ref
          have Hlt := Lib.hid htab.nat
          have Hkeep := Lib.hid hkeep
          clear hN' htab hkeep
          go_wp2_with fail
          refine (kept_any true N Ak nk ck keep w5 Hk5.out ⟨fun _ => Hkeep.out, fun _ => rfl⟩).mono ?_
          rintro e w6 ⟨rfl, rfl⟩
          go_upto_region 14 with fail
          have hKS : ∀ W, Below w5.heap.size w5 W → W.cell? ⟨w2.heap.size, 0, none⟩ = some (.slice A1 t.low.length c1) ∧ W.cell? ⟨w2.heap.size, 1, none⟩ = some (.slice A2 t.up.length c2) ∧ W.cell? ⟨w2.heap.size, 2, none⟩ = some (.slice A3 t.pair.length c3) := fun W hW => by
            have := (HTV.out W (Hb34.out.trans (hW.mono Hb34.out.size))).1
            exact ⟨this.cell 0, this.cell 1, this.cell 2⟩
          have HKS := Lib.hid hKS
          clear hKS
          refine wp_region_noPanic ?_
          refine wp_region_T (fun w' => w'.cell? ⟨w2.heap.size, 0, none⟩ = some (.slice A1 t.low.length c1) ∧ w'.cell? ⟨w2.heap.size, 1, none⟩ = some (.slice A2 t.up.length c2) ∧ w'.cell? ⟨w2.heap.size, 2, none⟩ = some (.slice A3 t.pair.length c3)) 9 (by kernel_rfl) (HKS.out _ (Below.drew (Below.refl _ _))) (fun hHeld => ?_)
          have hbd : Below w5.heap.size w5 w5.drew := Below.drew (Below.refl _ _)
          generalize w5.drew = W0 at hHeld hbd ⊢
          refine wpAnyT_take (i := 0) (v := ?_) rfl (by kernel_rfl) (by kernel_rfl) (by kernel_rfl) (by kernel_rfl) (fun _ _ _ h => h) (Or.inl ⟨by rfl, ?_⟩) (by assumption) ?_
          rotate_left
          · (intro w hSw; (try dsimp only at hSw); first | (go_simp; done) | (go_simp; with_reducible rfl))
          try simp only [Act.put, List.getElem_toArray, List.getElem_cons_zero, List.getElem_cons_succ, List.setIfInBounds_toArray, List.set_cons_zero, List.set_cons_succ]
          refine wpAnyT_take (i := 1) (v := ?_) rfl (by kernel_rfl) (by kernel_rfl) (by kernel_rfl) (by kernel_rfl) (fun _ _ _ h => h) (Or.inl ⟨by rfl, ?_⟩) (by assumption) ?_
          rotate_left
          · (intro w hSw; (try dsimp only at hSw); first | (go_simp; done) | (go_simp; with_reducible rfl))
          try simp only [Act.put, List.getElem_toArray, List.getElem_cons_zero, List.getElem_cons_succ, List.setIfInBounds_toArray, List.set_cons_zero, List.set_cons_succ]
          refine wpAnyT_take (i := 2) (v := ?_) rfl (by kernel_rfl) (by kernel_rfl) (by kernel_rfl) (by kernel_rfl) (fun _ _ _ h => h) (Or.inl ⟨by rfl, ?_⟩) (by assumption) ?_
          rotate_left
          · (intro w hSw; (try dsimp only at hSw); first | (go_simp; done) | (go_simp; with_reducible rfl))
          try simp only [Act.put, List.getElem_toArray, List.getElem_cons_zero, List.getElem_cons_succ, List.setIfInBounds_toArray, List.set_cons_zero, List.set_cons_succ]
          refine wpAnyT_take (i := 3) (v := ?_) rfl (by kernel_rfl) (by kernel_rfl) (by kernel_rfl) (by kernel_rfl) (fun _ _ _ h => h) (Or.inl ⟨by rfl, ?_⟩) (by assumption) ?_
          rotate_left
          · (intro w hSw; (try dsimp only at hSw); first | (go_simp; done) | (go_simp; with_reducible rfl))
          try simp only [Act.put, List.getElem_toArray, List.getElem_cons_zero, List.getElem_cons_succ, List.setIfInBounds_toArray, List.set_cons_zero, List.set_cons_succ]
          clear hHeld
          refine wpAnyT_step (i := 4) (by kernel_rfl) rfl (fun K hK => ?_)
          (go_simp; refine (refProject_any N Al nl cl xs Ak nk ck (keep.map Int.toNat) W0 ((Hx5.out.below hbd).more hbd.size) (by rw [natK_nat fun v hv => (Hkeep.out.1 v hv).1]; exact (Hk5.out.below hbd).more hbd.size) (by omega) (by omega) (by omega) Hok.out Hlt.out).mono ?_; rintro e W1 ⟨v1, rfl, hv1, hb1⟩; have hbW := hbd.trans (hb1.mono hbd.size); clear hb1)
          refine hK.out _ _ (HKS.out _ hbW) ?_
          clear hK K
          try simp only [Act.put, List.getElem_toArray, List.getElem_cons_zero, List.getElem_cons_succ, List.setIfInBounds_toArray, List.set_cons_zero, List.set_cons_succ]
          have hS1 := HKS.out _ hbW
          refine wpAnyT_step (i := 5) (by kernel_rfl) rfl (fun K hK => ?_)
          (go_simp; refine (tabSame_any (t := t) (u := refTab N xs (keep.map Int.toNat)) (r := true) (by rw [← Href.out]; simp) _ v1 W1 (HTV.out _ (Hb34.out.trans (hbW.mono Hb34.out.size))).2 hv1).mono ?_; rintro e W2 ⟨rfl, hb2⟩; have hbW2 := hbW.trans (hb2.mono hbW.size); clear hb2 hv1 hbd)
          refine hK.out _ _ (HKS.out _ hbW2) ?_
          clear hK K
          try simp only [Act.put, List.getElem_toArray, List.getElem_cons_zero, List.getElem_cons_succ, List.setIfInBounds_toArray, List.set_cons_zero, List.set_cons_succ]
          have hS2 := HKS.out _ hbW2
          refine wpAnyT_take (i := 6) (v := ?_) rfl (by kernel_rfl) (by kernel_rfl) (by kernel_rfl) (by kernel_rfl) (fun _ _ _ h => h) (Or.inl ⟨by rfl, ?_⟩) (by assumption) ?_
          rotate_left
          · (intro w hSw; (try dsimp only at hSw); first | (go_simp; done) | (go_simp; with_reducible rfl))
          try simp only [Act.put, List.getElem_toArray, List.getElem_cons_zero, List.getElem_cons_succ, List.setIfInBounds_toArray, List.set_cons_zero, List.set_cons_succ]
          refine wpAnyT_step (i := 7) (by kernel_rfl) rfl (fun K hK => ?_)
          (go_simp; refine (works5_any W2).mono ?_; rintro e W3 ⟨rfl, hb3⟩; have hbW3 := hbW2.trans (hb3.mono hbW2.size); clear hb3)
          refine hK.out _ _ (HKS.out _ hbW3) ?_
          clear hK K
          try simp only [Act.put, List.getElem_toArray, List.getElem_cons_zero, List.getElem_cons_succ, List.setIfInBounds_toArray, List.set_cons_zero, List.set_cons_succ]
          have hS3 := HKS.out _ hbW3
          refine wpAnyT_take (i := 8) (v := ?_) rfl (by kernel_rfl) (by kernel_rfl) (by kernel_rfl) (by kernel_rfl) (fun _ _ _ h => h) (Or.inl ⟨by rfl, ?_⟩) (by assumption) ?_
          rotate_left
          · (intro w hSw; (try dsimp only at hSw); first | (go_simp; done) | (go_simp; with_reducible rfl))
          try simp only [Act.put, List.getElem_toArray, List.getElem_cons_zero, List.getElem_cons_succ, List.setIfInBounds_toArray, List.set_cons_zero, List.set_cons_succ]
          have Hend := Lib.hid (Hb4.out.trans (hbW3.mono Hb4.out.size))
          clear hS1 hS2 hS3 hbW hbW2 hbW3
          refine wpAnyT_seq 9 (by omega) (by rfl) (by kernel_rfl) ?_
          simp only [List.drop_succ_cons, List.drop_zero]
          go_wp2_with fail
          refine NoPanic.normal ?_
          go_wp2_with fail
          go_ret
          exact ⟨rfl, Hend.out⟩
        · obtain ⟨rfl, ht⟩ := HR.out.bad (by omega) (by omega) Hok.out (by omega) Hsol.out hkeep
          have Ht := Lib.hid ht
          have Hkeep := Lib.hid hkeep
          clear ht HR hkeep
          go_wp2_with fail
          refine (kept_any false N Ak nk ck keep w5 Hk5.out ⟨fun h => Bool.noConfusion h, fun h => absurd h Hkeep.out⟩).mono ?_
          rintro e w6 ⟨rfl, rfl⟩
          obtain ⟨hT4, hv4⟩ := HTV.out _ Hb34.out
          have x0 := hT4.cell 0
          have x1 := hT4.cell 1
          have x2 := hT4.cell 2
          simp only [List.getElem?_toArray, List.getElem?_cons_zero, List.getElem?_cons_succ] at x0 x1 x2
          have Hv4 := Lib.hid hv4
          clear hT4 hv4
          go_wp2_with fail
          refine (tabSame_any (t := t) (u := emptyT) (r := true) (by rw [Ht.out]; decide) _ _ w5 Hv4.out (TabV.empty w5 _)).mono ?_
          rintro e w7 ⟨rfl, hb7⟩
          have Hbw := Lib.hid (Hb4.out.trans (hb7.mono Hb4.out.size))
          clear hb7 x0 x1 x2
          go_wp2_with fail
          refine (works5_any w7).mono ?_
          rintro e w8 ⟨rfl, hb8⟩
          have Hb8 := Lib.hid (Hbw.out.trans (hb8.mono Hbw.out.size))
          clear hb8
          go_wp2_with fail
          go_ret
          exact ⟨by first | rfl | decide | simp, Hb8.out⟩
    · have Hok := Lib.hid hok
      clear hok
      go_enter Try.func9, Try.ntmps9
      go_wp2_with fail
      refine (great5_any false n Al nl cl Ak nk ck w HG.out).mono ?_; rintro e w1 ⟨rfl, rfl⟩
      go_wp2_with fail
      refine (project_any n Al nl cl xs Ak nk ck keep w Hx.out Hk.out).mono ?_
      rintro e w2 ⟨v, t, er, rfl, hv, hR, hb2⟩
      obtain ⟨A1, c1, A2, c2, A3, c3, rfl, hq1, hq2, hq3⟩ := hv
      have hT := blk_new w2 #[.slice A1 t.low.length c1, .slice A2 t.up.length c2, .slice A3 t.pair.length c3] 50
      have hbT := below_box (w := w2) (Obj.cells #[.slice A1 t.low.length c1, .slice A2 t.up.length c2, .slice A3 t.pair.length c3] 50)
      have hv : TabV w2 w2.heap.size (.agg #[.slice A1 t.low.length c1, .slice A2 t.up.length c2, .slice A3 t.pair.length c3]) t := ⟨_, _, _, _, _, _, rfl, hq1, hq2, hq3⟩
      replace hv := hv.fresh hbT
      have hb3 := hb2.trans (hbT.mono hb2.size)
      obtain ⟨w3, hw3⟩ : ∃ x, w2.alloc (Obj.cells #[.slice A1 t.low.length c1, .slice A2 t.up.length c2, .slice A3 t.pair.length c3] 50) = x := ⟨_, rfl⟩
      rw [hw3] at hT hv hb3
      have Hw3 := Lib.hid hw3
      have HR := Lib.hid hR
      have Hb3 := Lib.hid hb3
      have HTV : Hid (∀ W, Below w3.heap.size w3 W → Blk W w2.heap.size 50 #[.slice A1 t.low.length c1, .slice A2 t.up.length c2, .slice A3 t.pair.length c3] ∧ TabV W W.heap.size (.agg #[.slice A1 t.low.length c1, .slice A2 t.up.length c2, .slice A3 t.pair.length c3]) t) := Lib.hid fun W hW => ⟨hT.below hW hT.lt, hv.fresh hW⟩
      have Hx3 := Lib.hid ((Hx.out.below hb3).more hb3.size)
      have Hk3 := Lib.hid ((Hk.out.below hb3).more hb3.size)
      clear hT hbT hv hb2 hb3 hw3 hR hq1 hq2 hq3
      go_wp2_with fail
      rw [Hw3.out]
      obtain ⟨rfl, ht⟩ := HR.out.mayNot (by omega) (by omega) Hok.out (by omega)
      have Ht := Lib.hid ht
      clear ht HR
      refine (refMay4_any false n none 0 0 [] Al nl cl xs w3 RdI.nil Hx3.out ⟨fun h => Bool.noConfusion h, fun h => absurd h Hok.out⟩).mono ?_
      rintro e w4 ⟨rfl, hb4⟩
      have Hb34 := Lib.hid hb4
      have Hb4 := Lib.hid (Hb3.out.trans (hb4.mono Hb3.out.size))
      clear hb4
      obtain ⟨hT4, hv4⟩ := HTV.out _ Hb34.out
      have x0 := hT4.cell 0
      have x1 := hT4.cell 1
      have x2 := hT4.cell 2
      simp only [List.getElem?_toArray, List.getElem?_cons_zero, List.getElem?_cons_succ] at x0 x1 x2
      have Hv4 := Lib.hid hv4
      clear hT4 hv4
      go_wp2_with fail
      refine (tabSame_any (t := t) (u := emptyT) (r := true) (by rw [Ht.out]; decide) _ _ w4 Hv4.out (TabV.empty w4 _)).mono ?_
      rintro e w7 ⟨rfl, hb7⟩
      have Hbw := Lib.hid (Hb4.out.trans (hb7.mono Hb4.out.size))
      clear hb7 x0 x1 x2
      go_wp2_with fail
      refine (works5_any w7).mono ?_
      rintro e w8 ⟨rfl, hb8⟩
      have Hb8 := Lib.hid (Hbw.out.trans (hb8.mono Hbw.out.size))
      clear hb8
      go_wp2_with fail
      go_ret
      exact ⟨by first | rfl | decide | simp, Hb8.out⟩

theorem walk_elimTells (n : Int) (hn : -9223372036854775808 ≤ n ∧ n ≤ 9223372036854775807) (v1 : Value) (w : World) (h1 : IneqsIn w v1) (v2 : Value) (h2 : IntsIn w v2) :
    Calls Try.prog 9 #[.int .i64 n, v1, v2] w fun e w' => e = .returned (.bool true) ∧ Below w.heap.size w w' := by
  obtain ⟨A', nl, c', xs, rfl, hx, _⟩ := h1
  obtain ⟨A, m, c, us, rfl, h2⟩ := h2
  exact walkA_elimTells n A' nl c' xs A m c us w hx h2

/-! ### the row's step -/
namespace elimTells
set_option maxRecDepth 100000 in
theorem lifted (os : Os) (started : os.Started) (H : Type) (enc : TypeId × Value → H) :
    ReturnsInHanded {} Try.checked os 9 .any (Rows.elimTellsSpec.pre6 enc Try.prog Try.f9 Rows.elimTellsRow.domain false) (Rows.elimTellsSpec.post enc Try.prog Try.f9 false true false false) := by
  refine returnsInHanded_of_change_sized (C := Try.checked) own started (by kernel_rfl) Try.func9
    (ChangeSpec.witness6 (enc := enc) (C := Try.checked) false ⟨#[], #[.int .i64 0, .slice none 0 0, .slice none 0 0], []⟩ 8 (by kernel_rfl) (by kernel_rfl) (by kernel_rfl) (by kernel_rfl)) ?_
  intro W base args ds gs before hval0 hW hcnd hsz0 _
  have hsz : (DataW.weightsEach Try.prog (Try.f9.params.toList ++ Rows.elimTellsSpec.plain.varTypes Try.prog) (ds ++ gs)).all (· ≤ reachBytes) = true := hsz0
  have hval : ∀ (j : Nat) t v, Try.f9.params[j]? = some t → args[j]? = some v → Value.okWide Try.prog W .any base t v := hval0
  have hW' := hW
  obtain ⟨p, q, hA0, hV, rfl, hfz, hnd⟩ := hW
  have hA : DataW.TrodAll enc Try.prog W 0 (fun _ => true) true Try.f9.params.toList args.toList ds p := hA0
  rw [Try.params9] at hA hval hsz
  obtain ⟨v0, vs0, d0, ds0, p0, q0, hargs, rfl, rfl, h0, r_0⟩ := trodAll_cons hA
  obtain ⟨v1, vs1, d1, ds1, p1, q1, rfl, rfl, rfl, h1, r_1⟩ := trodAll_cons r_0
  obtain ⟨v2, vs2, d2, ds2, p2, q2, rfl, rfl, rfl, h2, r_2⟩ := trodAll_cons r_1
  obtain ⟨rfl, rfl, rfl⟩ := trodAll_nil r_2
  obtain rfl : args = #[v0, v1, v2] := by cases args; simp_all
  obtain ⟨rfl, rfl⟩ := trodVars_none hV
  obtain ⟨a0, rfl, _, _, w0⟩ := open_int Try.underlying3 (hval 0 3 v0 rfl rfl) h0
  have b0 := bounds_i64 w0
  have w1 := rd_ineqs (hval 1 35 v1 rfl rfl) h1
  have w2 := rd_intsI (hval 2 23 v2 rfl rfl) h2
  refine (walk_elimTells (w := W) a0 b0 v1 w1 v2 w2).mono fun e W' ⟨he, bel⟩ => ?_
  subst he
  exact ⟨_, rfl, law_post laidOut (by kernel_rfl) rfl rfl Try.underlying4 hW' rfl rfl rfl bel⟩
theorem over : Rows.elimTellsRow.holds Try.pinned (OpenSpec.ofChange Rows.elimTellsSpec) :=
  OpenClaim.holds_of_wide 9 Try.f9 rfl rfl rfl rfl rfl rfl rfl ⟨rfl, rfl, rfl, rfl, rfl⟩ rfl rfl rfl rfl rfl (by kernel_rfl) Try.func9 (by kernel_rfl)
    (of_decide_eq_true (by kernel_rfl)) (by unfold Func.isWrapper; first | (rw [if_pos (by decide +kernel)]; kernel_rfl) | (rw [if_neg (by decide +kernel)]; exact ⟨rfl, rfl⟩))
    (fun os started H enc _ => lifted os started H enc)
/-- the statement -/
theorem proved : Rows.ElimTellsSaid := over
#print axioms proved
end elimTells
end Go.Proofs.Ythabkpkgocafoaa
