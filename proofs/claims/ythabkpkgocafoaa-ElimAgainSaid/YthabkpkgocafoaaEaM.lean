/- Texts of this claim, laid one behind the other: ElimH, ElimL. -/
import Derived.Test.YthabkpkgocafoaaElimD
import Derived.Test.YthabkpkgocafoaaEaI
/- The contract of layer 5's works. -/
namespace Go.Proofs.Ythabkpkgocafoaa
set_option linter.unusedVariables false
set_option linter.unusedSimpArgs false
open Go.RowKit

def tab0 : TabD := ⟨[1, 1], [3, 3], [[1, 2], [3, 1]]⟩
theorem rd_two (w : World) (k : IntKind) (t : TypeId) (a b : Int) : RdI k (w.alloc (Obj.cells #[.int k a, .int k b] t)) (w.alloc (Obj.cells #[.int k a, .int k b] t)).heap.size (some ⟨w.heap.size, 0, none⟩) 2 2 [a, b] :=
  rd_blkK (us := [a, b]) (blk_new w _ _) rfl (by unfold maxLen; omega)
set_option maxRecDepth 100000 in
set_option maxHeartbeats 2000000 in
theorem works5_any (w : World) : Calls Try.prog 28 #[] w fun e w' => e = .returned (.bool true) ∧ Below w.heap.size w w' := by
  go_enter Try.func28, Try.ntmps28
  go_wp2_with fail
  refine (below5_any 0 1 1 w).mono ?_; rintro e w1 ⟨rfl, hb1⟩
  go_wp2_with fail
  refine (below5_any 1 2 2 w1).mono ?_; rintro e w2 ⟨rfl, hb2⟩
  have h2 := hb1.trans (hb2.mono hb1.size)
  go_wp2_with fail
  have hbk : Blk (w2.alloc (Obj.cells #[.int .i64 0, .int .u8 0, .int .u8 1, .int .i64 1, .int .i64 1, .int .u8 0, .int .u8 2, .int .i64 2] 31)) w2.heap.size 31 (cellsQ xsE0).toArray := blk_new w2 _ _
  have hbx := below_box (w := w2) (Obj.cells #[.int .i64 0, .int .u8 0, .int .u8 1, .int .i64 1, .int .i64 1, .int .u8 0, .int .u8 2, .int .i64 2] 31)
  have hs3' : (w2.alloc (Obj.cells #[.int .i64 0, .int .u8 0, .int .u8 1, .int .i64 1, .int .i64 1, .int .u8 0, .int .u8 2, .int .i64 2] 31)).heap.size = w2.heap.size + 1 := by simp
  generalize w2.alloc (Obj.cells #[.int .i64 0, .int .u8 0, .int .u8 1, .int .i64 1, .int .i64 1, .int .u8 0, .int .u8 2, .int .i64 2] 31) = w3 at hbk hbx hs3' ⊢
  have hs3 : w3.heap.size = w2.heap.size + 1 := hs3'
  have hb3 := h2.trans (hbx.mono h2.size)
  have hx : IneqsV w3 w3.heap.size (some ⟨w2.heap.size, 0, none⟩) 2 2 xsE0 := IneqsV.laid hbk (by unfold maxLen xsE0; simp)
  have hk := rd_two w3 .i64 3 0 2
  have hby := below_box (w := w3) (Obj.cells #[.int .i64 0, .int .i64 2] 3)
  rw [hs3] at hk
  generalize w3.alloc (Obj.cells #[.int .i64 0, .int .i64 2] 3) = w4 at hk hby ⊢
  have hb4 := hb3.trans (hby.mono hb3.size)
  refine (project_any 4 (some ⟨w2.heap.size, 0, none⟩) 2 2 xsE0 (some ⟨w2.heap.size + 1, 0, none⟩) 2 2 [0, 2] w4 ((hx.below hby).more hby.size) hk).mono ?_
  rintro e w5 ⟨v, t, er, rfl, hv, hR, hb5⟩
  obtain ⟨rfl, ht, hok⟩ := known0 hR
  replace ht : t = tab0 := ht
  subst ht
  have h5 := hb4.trans (hb5.mono hb4.size)
  have hv5 := hv
  obtain ⟨A1, c1, A2, c2, A3, c3, rfl, _⟩ := hv
  have hT := blk_new w5 #[.slice A1 tab0.low.length c1, .slice A2 tab0.up.length c2, .slice A3 tab0.pair.length c3] 50
  have hbT := below_box (w := w5) (Obj.cells #[.slice A1 tab0.low.length c1, .slice A2 tab0.up.length c2, .slice A3 tab0.pair.length c3] 50)
  obtain ⟨w6, hw6⟩ : ∃ x, w5.alloc (Obj.cells #[.slice A1 tab0.low.length c1, .slice A2 tab0.up.length c2, .slice A3 tab0.pair.length c3] 50) = x := ⟨_, rfl⟩
  obtain ⟨bt, hbt⟩ : ∃ x, w5.heap.size = x := ⟨_, rfl⟩
  rw [hw6] at hT hbT
  rw [hbt] at hT
  have hv6 : TabV w6 w6.heap.size (.agg #[.slice A1 tab0.low.length c1, .slice A2 tab0.up.length c2, .slice A3 tab0.pair.length c3]) tab0 := hv5.fresh hbT
  have Hv6 := Lib.hid hv6
  have H6 := Lib.hid (h5.trans (hbT.mono h5.size))
  have HT := Lib.hid hT
  have Hw6 := Lib.hid hw6
  have Hok := Lib.hid hok
  clear hb1 hb2 h2 hbk hbx hb3 hx hk hby hb4 hR hb5 h5 hv5 hT hbT hw6 hv6 hok
  go_upto_region 2 with fail
  rw [Hw6.out]
  have x0 : w6.cell? ⟨bt, 0, none⟩ = some (.slice A1 tab0.low.length c1) := HT.out.cell 0
  have x1 : w6.cell? ⟨bt, 1, none⟩ = some (.slice A2 tab0.up.length c2) := HT.out.cell 1
  have x2 : w6.cell? ⟨bt, 2, none⟩ = some (.slice A3 tab0.pair.length c3) := HT.out.cell 2
  have hs6 : bt < w6.heap.size := HT.out.lt
  have hKS : ∀ W, Below w6.heap.size w6 W → W.cell? ⟨bt, 0, none⟩ = some (.slice A1 tab0.low.length c1) ∧ W.cell? ⟨bt, 1, none⟩ = some (.slice A2 tab0.up.length c2) ∧ W.cell? ⟨bt, 2, none⟩ = some (.slice A3 tab0.pair.length c3) := fun W hW => ⟨(hW.cell (p := ⟨bt, 0, none⟩) hs6).trans x0, (hW.cell (p := ⟨bt, 1, none⟩) hs6).trans x1, (hW.cell (p := ⟨bt, 2, none⟩) hs6).trans x2⟩
  have HKS := Lib.hid hKS
  clear hKS x0 x1 x2
  refine wp_region_noPanic ?_
  refine wp_region_T (fun w' => w'.cell? ⟨bt, 0, none⟩ = some (.slice A1 tab0.low.length c1) ∧ w'.cell? ⟨bt, 1, none⟩ = some (.slice A2 tab0.up.length c2) ∧ w'.cell? ⟨bt, 2, none⟩ = some (.slice A3 tab0.pair.length c3)) 20 (by kernel_rfl) (HKS.out _ (Below.drew (Below.refl _ _))) (fun hHeld => ?_)
  have hbd : Below w6.heap.size w6 w6.drew := Below.drew (Below.refl _ _)
  generalize w6.drew = W0 at hHeld hbd ⊢
  refine wpAnyT_take (i := 0) (v := ?_) rfl (by kernel_rfl) (by kernel_rfl) (by kernel_rfl) (by kernel_rfl) (fun _ _ _ h => h) (Or.inl ⟨by rfl, ?_⟩) (by assumption) ?_
  rotate_left
  · (intro w hSw; (try dsimp only at hSw); first | (go_simp; done) | (go_simp; with_reducible rfl))
  try simp only [Act.put, List.getElem_toArray, List.getElem_cons_zero, List.getElem_cons_succ, List.setIfInBounds_toArray, List.set_cons_zero, List.set_cons_succ]
  refine wpAnyT_take (i := 1) (v := ?_) rfl (by kernel_rfl) (by kernel_rfl) (by kernel_rfl) (by kernel_rfl) (fun _ _ _ h => h) (Or.inl ⟨by rfl, ?_⟩) (by assumption) ?_
  rotate_left
  · (intro w hSw; (try dsimp only at hSw); first | (go_simp; done) | (go_simp; with_reducible rfl))
  try simp only [Act.put, List.getElem_toArray, List.getElem_cons_zero, List.getElem_cons_succ, List.setIfInBounds_toArray, List.set_cons_zero, List.set_cons_succ]
  refine wpAnyT_take (i := 2) (v := ?_) rfl (by kernel_rfl) (by kernel_rfl) (by kernel_rfl) (by kernel_rfl) (fun _ _ _ h => h) (Or.inl ⟨by rfl, ?_⟩) (by assumption) ?_
  rotate_left
  · (intro w hSw; (try dsimp only at hSw); first | (go_simp; done) | (go_simp; with_reducible rfl))
  try simp only [Act.put, List.getElem_toArray, List.getElem_cons_zero, List.getElem_cons_succ, List.setIfInBounds_toArray, List.set_cons_zero, List.set_cons_succ]
  refine wpAnyT_take (i := 3) (v := ?_) rfl (by kernel_rfl) (by kernel_rfl) (by kernel_rfl) (by kernel_rfl) (fun _ _ _ h => h) (Or.inl ⟨by rfl, ?_⟩) (by assumption) ?_
  rotate_left
  · (intro w hSw; (try dsimp only at hSw); first | (go_simp; done) | (go_simp; with_reducible rfl))
  try simp only [Act.put, List.getElem_toArray, List.getElem_cons_zero, List.getElem_cons_succ, List.setIfInBounds_toArray, List.set_cons_zero, List.set_cons_succ]
  refine wpAnyT_take (i := 4) (v := ?_) rfl (by kernel_rfl) (by kernel_rfl) (by kernel_rfl) (by kernel_rfl) (fun _ _ _ h => h) (Or.inl ⟨by rfl, ?_⟩) (by assumption) ?_
  rotate_left
  · (intro w hSw; (try dsimp only at hSw); first | (go_simp; done) | (go_simp; with_reducible rfl))
  try simp only [Act.put, List.getElem_toArray, List.getElem_cons_zero, List.getElem_cons_succ, List.setIfInBounds_toArray, List.set_cons_zero, List.set_cons_succ]
  refine wpAnyT_take (i := 5) (v := ?_) rfl (by kernel_rfl) (by kernel_rfl) (by kernel_rfl) (by kernel_rfl) (fun _ _ _ h => h) (Or.inl ⟨by rfl, ?_⟩) (by assumption) ?_
  rotate_left
  · (intro w hSw; (try dsimp only at hSw); first | (go_simp; done) | (go_simp; with_reducible rfl))
  try simp only [Act.put, List.getElem_toArray, List.getElem_cons_zero, List.getElem_cons_succ, List.setIfInBounds_toArray, List.set_cons_zero, List.set_cons_succ]
  clear hHeld
  refine wpAnyT_step (i := 6) (by kernel_rfl) rfl (fun K hK => ?_)
  (go_simp; refine (told_any 1 1 3 3 2 3 W0).mono ?_; rintro e W1 ⟨v1, rfl, hv1, hb1⟩; have hbW := hbd.trans (hb1.mono hbd.size); clear hb1)
  refine hK.out _ _ (HKS.out _ hbW) ?_
  clear hK K
  try simp only [Act.put, List.getElem_toArray, List.getElem_cons_zero, List.getElem_cons_succ, List.setIfInBounds_toArray, List.set_cons_zero, List.set_cons_succ]
  have hS1 := HKS.out _ hbW
  refine wpAnyT_step (i := 7) (by kernel_rfl) rfl (fun K hK => ?_)
  (go_simp; refine (tabSame_any (t := tab0) (u := toldT 1 1 3 3 2 3) (r := true) (by decide) _ v1 W1 (Hv6.out.fresh hbW) hv1).mono ?_; rintro e W2 ⟨rfl, hb2⟩; have hbW2 := hbW.trans (hb2.mono hbW.size); clear hb2 hbW hv1 hbd)
  refine hK.out _ _ (HKS.out _ hbW2) ?_
  clear hK K
  try simp only [Act.put, List.getElem_toArray, List.getElem_cons_zero, List.getElem_cons_succ, List.setIfInBounds_toArray, List.set_cons_zero, List.set_cons_succ]
  have hS2 := HKS.out _ hbW2
  refine wpAnyT_take (i := 8) (v := ?_) rfl (by kernel_rfl) (by kernel_rfl) (by kernel_rfl) (by kernel_rfl) (fun _ _ _ h => h) (Or.inl ⟨by rfl, ?_⟩) (by assumption) ?_
  rotate_left
  · (intro w hSw; (try dsimp only at hSw); first | (go_simp; done) | (go_simp; with_reducible rfl))
  try simp only [Act.put, List.getElem_toArray, List.getElem_cons_zero, List.getElem_cons_succ, List.setIfInBounds_toArray, List.set_cons_zero, List.set_cons_succ]
  refine wpAnyT_take (i := 9) (v := ?_) rfl (by kernel_rfl) (by kernel_rfl) (by kernel_rfl) (by kernel_rfl) (fun _ _ _ h => h) (Or.inl ⟨by rfl, ?_⟩) (by assumption) ?_
  rotate_left
  · (intro w hSw; (try dsimp only at hSw); first | (go_simp; done) | (go_simp; with_reducible rfl))
  try simp only [Act.put, List.getElem_toArray, List.getElem_cons_zero, List.getElem_cons_succ, List.setIfInBounds_toArray, List.set_cons_zero, List.set_cons_succ]
  refine wpAnyT_take (i := 10) (v := ?_) rfl (by kernel_rfl) (by kernel_rfl) (by kernel_rfl) (by kernel_rfl) (fun _ _ _ h => h) (Or.inl ⟨by rfl, ?_⟩) (by assumption) ?_
  rotate_left
  · (intro w hSw; (try dsimp only at hSw); first | (go_simp; done) | (go_simp; with_reducible rfl))
  try simp only [Act.put, List.getElem_toArray, List.getElem_cons_zero, List.getElem_cons_succ, List.setIfInBounds_toArray, List.set_cons_zero, List.set_cons_succ]
  clear hS1 hS2
  have hbA : Below w6.heap.size w6 (W2.alloc (Obj.cells #[.int .u8 2, .int .u8 1] 27)) := hbW2.trans ((below_box _).mono hbW2.size)
  have hra := rd_two W2 .u8 27 2 1
  refine wpAnyT_step (i := 11) (by kernel_rfl) rfl (fun K hK => ?_)
  go_simp
  refine hK.out _ _ (HKS.out _ hbA) ?_
  clear hK K
  try simp only [Act.put, List.getElem_toArray, List.getElem_cons_zero, List.getElem_cons_succ, List.setIfInBounds_toArray, List.set_cons_zero, List.set_cons_succ]
  generalize W2.alloc (Obj.cells #[.int .u8 2, .int .u8 1] 27) = W3 at hbA hra ⊢
  have hS3 := HKS.out _ hbA
  refine wpAnyT_step (i := 12) (by kernel_rfl) rfl (fun K hK => ?_)
  (go_simp; refine (tabLets_any Hok.out _ _ 2 2 [2, 1] W3 (Hv6.out.fresh hbA) hra).mono ?_; rintro e W4 ⟨b, rfl, hb, hb4⟩; obtain rfl := (hb.2 lets21); have hbW4 := hbA.trans (hb4.mono hbA.size); clear hb4 hbA hra hS3 hb hbW2)
  refine hK.out _ _ (HKS.out _ hbW4) ?_
  clear hK K
  try simp only [Act.put, List.getElem_toArray, List.getElem_cons_zero, List.getElem_cons_succ, List.setIfInBounds_toArray, List.set_cons_zero, List.set_cons_succ]
  have hS4 := HKS.out _ hbW4
  refine wpAnyT_take (i := 13) (v := ?_) rfl (by kernel_rfl) (by kernel_rfl) (by kernel_rfl) (by kernel_rfl) (fun _ _ _ h => h) (Or.inl ⟨by rfl, ?_⟩) (by assumption) ?_
  rotate_left
  · (intro w hSw; (try dsimp only at hSw); first | (go_simp; done) | (go_simp; with_reducible rfl))
  try simp only [Act.put, List.getElem_toArray, List.getElem_cons_zero, List.getElem_cons_succ, List.setIfInBounds_toArray, List.set_cons_zero, List.set_cons_succ]
  refine wpAnyT_take (i := 14) (v := ?_) rfl (by kernel_rfl) (by kernel_rfl) (by kernel_rfl) (by kernel_rfl) (fun _ _ _ h => h) (Or.inl ⟨by rfl, ?_⟩) (by assumption) ?_
  rotate_left
  · (intro w hSw; (try dsimp only at hSw); first | (go_simp; done) | (go_simp; with_reducible rfl))
  try simp only [Act.put, List.getElem_toArray, List.getElem_cons_zero, List.getElem_cons_succ, List.setIfInBounds_toArray, List.set_cons_zero, List.set_cons_succ]
  refine wpAnyT_take (i := 15) (v := ?_) rfl (by kernel_rfl) (by kernel_rfl) (by kernel_rfl) (by kernel_rfl) (fun _ _ _ h => h) (Or.inl ⟨by rfl, ?_⟩) (by assumption) ?_
  rotate_left
  · (intro w hSw; (try dsimp only at hSw); first | (go_simp; done) | (go_simp; with_reducible rfl))
  try simp only [Act.put, List.getElem_toArray, List.getElem_cons_zero, List.getElem_cons_succ, List.setIfInBounds_toArray, List.set_cons_zero, List.set_cons_succ]
  clear hS4
  have hbA : Below w6.heap.size w6 (W4.alloc (Obj.cells #[.int .u8 3, .int .u8 2] 27)) := hbW4.trans ((below_box _).mono hbW4.size)
  have hra := rd_two W4 .u8 27 3 2
  refine wpAnyT_step (i := 16) (by kernel_rfl) rfl (fun K hK => ?_)
  go_simp
  refine hK.out _ _ (HKS.out _ hbA) ?_
  clear hK K
  try simp only [Act.put, List.getElem_toArray, List.getElem_cons_zero, List.getElem_cons_succ, List.setIfInBounds_toArray, List.set_cons_zero, List.set_cons_succ]
  generalize W4.alloc (Obj.cells #[.int .u8 3, .int .u8 2] 27) = W5 at hbA hra ⊢
  have hS3 := HKS.out _ hbA
  refine wpAnyT_step (i := 17) (by kernel_rfl) rfl (fun K hK => ?_)
  (go_simp; refine (tabLets_any Hok.out _ _ 2 2 [3, 2] W5 (Hv6.out.fresh hbA) hra).mono ?_; rintro e W6 ⟨b, rfl, hb, hb4⟩; obtain rfl := (Bool.eq_false_iff.2 fun h => lets32 (hb.1 h)); have hbW6 := hbA.trans (hb4.mono hbA.size); clear hb4 hbA hra hS3 hb hbW4)
  refine hK.out _ _ (HKS.out _ hbW6) ?_
  clear hK K
  try simp only [Act.put, List.getElem_toArray, List.getElem_cons_zero, List.getElem_cons_succ, List.setIfInBounds_toArray, List.set_cons_zero, List.set_cons_succ]
  have hS4 := HKS.out _ hbW6
  refine wpAnyT_take (i := 18) (v := ?_) rfl (by kernel_rfl) (by kernel_rfl) (by kernel_rfl) (by kernel_rfl) (fun _ _ _ h => h) (Or.inl ⟨by rfl, ?_⟩) (by assumption) ?_
  rotate_left
  · (intro w hSw; (try dsimp only at hSw); first | (go_simp; done) | (go_simp; with_reducible rfl))
  try simp only [Act.put, List.getElem_toArray, List.getElem_cons_zero, List.getElem_cons_succ, List.setIfInBounds_toArray, List.set_cons_zero, List.set_cons_succ]
  refine wpAnyT_take (i := 19) (v := ?_) rfl (by kernel_rfl) (by kernel_rfl) (by kernel_rfl) (by kernel_rfl) (fun _ _ _ h => h) (Or.inl ⟨by rfl, ?_⟩) (by assumption) ?_
  rotate_left
  · (intro w hSw; (try dsimp only at hSw); first | (go_simp; done) | (go_simp; with_reducible rfl))
  try simp only [Act.put, List.getElem_toArray, List.getElem_cons_zero, List.getElem_cons_succ, List.setIfInBounds_toArray, List.set_cons_zero, List.set_cons_succ]
  have hend := H6.out.trans (hbW6.mono H6.out.size)
  clear hS4 hbW6
  refine wpAnyT_seq 20 (by omega) (by rfl) (by kernel_rfl) ?_
  simp only [List.drop_succ_cons, List.drop_zero]
  go_wp2_with fail
  refine NoPanic.normal ?_
  go_wp2_with fail
  go_ret
  exact ⟨rfl, hend⟩
end Go.Proofs.Ythabkpkgocafoaa

/- The contracts of usufructref05.Two and Project. -/
namespace Go.Proofs.Ythabkpkgocafoaa
set_option linter.unusedVariables false
set_option linter.unusedSimpArgs false
open Go.RowKit

theorem two_same {N : Nat} {xs : List IneqD} {u : Nat} {a b : Int} (h : a ≠ b) : twoB N xs u a u b = false := by
  cases hq : twoB N xs u a u b with
  | false => rfl
  | true =>
    obtain ⟨f, _, h1, h2⟩ := twoB_iff.1 hq
    exact absurd (h1.symm.trans h2) h
theorem two_one {N : Nat} {xs : List IneqD} {u : Nat} {a : Int} {r : Bool} (hr : twoB N xs u a u a = r) : r = true ↔ ∃ f, SolE N xs f ∧ ∀ i, i < [u].length → f.getD ([u].getD i 0) 0 = [a].getD i 0 := by
  rw [← hr, twoB_iff]
  exact ⟨fun ⟨f, h1, h2, _⟩ => ⟨f, h1, fun i hi => by obtain rfl : i = 0 := by simpa using hi
                                                      exact h2⟩, fun ⟨f, h1, h2⟩ => ⟨f, h1, h2 0 (by simp), h2 0 (by simp)⟩⟩
theorem two_two {N : Nat} {xs : List IneqD} {u v : Nat} {a b : Int} {r : Bool} (hr : twoB N xs u a v b = r) : r = true ↔ ∃ f, SolE N xs f ∧ ∀ i, i < [u, v].length → f.getD ([u, v].getD i 0) 0 = [a, b].getD i 0 := by
  rw [← hr, twoB_iff]
  refine ⟨fun ⟨f, h1, h2, h3⟩ => ⟨f, h1, fun i hi => ?_⟩, fun ⟨f, h1, h2⟩ => ⟨f, h1, h2 0 (by simp), h2 1 (by simp)⟩⟩
  rcases lt2 hi with rfl | rfl
  · exact h2
  · exact h3
theorem rng1 {a : Int} (h : 1 ≤ a ∧ a ≤ 3) : ∀ i, i < [a].length → 1 ≤ [a].getD i 0 ∧ [a].getD i 0 ≤ 3 := fun i hi => by
  obtain rfl : i = 0 := by simpa using hi
  exact h
theorem rng2 {a b : Int} (h : 1 ≤ a ∧ a ≤ 3) (h' : 1 ≤ b ∧ b ≤ 3) : ∀ i, i < [a, b].length → 1 ≤ [a, b].getD i 0 ∧ [a, b].getD i 0 ≤ 3 := fun i hi => by
  rcases lt2 hi with rfl | rfl
  · exact h
  · exact h'
theorem rd_one (w : World) (k : IntKind) (t : TypeId) (a : Int) : RdI k (w.alloc (Obj.cells #[.int k a] t)) (w.alloc (Obj.cells #[.int k a] t)).heap.size (some ⟨w.heap.size, 0, none⟩) 1 1 [a] :=
  rd_blkK (us := [a]) (blk_new w _ _) rfl (by unfold maxLen; omega)
set_option maxHeartbeats 1000000 in
theorem two_any (r : Bool) (N : Nat) (Al : Option Addr) (nl cl : Nat) (xs : List IneqD) (u v : Nat) (a b : Int) (w : World) (hx : IneqsV w w.heap.size Al nl cl xs) (hl : nl ≤ 1000) (hN : N ≤ 1000) (hok : OkS (N : Int) [] xs) (hu : u < N) (hv : v < N) (ha : 1 ≤ a ∧ a ≤ 3) (hb : 1 ≤ b ∧ b ≤ 3) (hr : twoB N xs u a v b = r) :
    Calls Try.prog 56 #[.int .i64 N, .slice Al nl cl, .int .i64 (u : Nat), .int .u8 a, .int .i64 (v : Nat), .int .u8 b] w fun e w' => e = .returned (.bool r) ∧ Below w.heap.size w w' := by
  have Hx := Lib.hid hx
  have Hok := Lib.hid hok
  have Hr := Lib.hid hr
  clear hx hok hr
  by_cases huv : u = v
  · subst huv
    have d0 : ((u : Int) == (u : Int)) = true := by simp
    by_cases hab : a = b
    · subst hab
      have d1 : (a == a) = true := by simp
      have hka := rd_one w .i64 3 (u : Int)
      have hkb := rd_one (w.alloc (Obj.cells #[.int .i64 (u : Int)] 3)) .u8 27 a
      have hba := below_box (w := w) (Obj.cells #[.int .i64 (u : Int)] 3)
      have hbb := below_box (w := w.alloc (Obj.cells #[.int .i64 (u : Int)] 3)) (Obj.cells #[.int .u8 a] 27)
      have hs1 : (w.alloc (Obj.cells #[.int .i64 (u : Int)] 3)).heap.size = w.heap.size + 1 := by simp
      rw [hs1] at hkb
      obtain ⟨w2, hw2⟩ : ∃ x, (w.alloc (Obj.cells #[.int .i64 (u : Int)] 3)).alloc (Obj.cells #[.int .u8 a] 27) = x := ⟨_, rfl⟩
      rw [hw2] at hkb hbb
      have h2 := hba.trans (hbb.mono hba.size)
      have Hka := Lib.hid ((hka.below hbb).more hbb.size)
      have Hkb := Lib.hid hkb
      have Hxx := Lib.hid ((Hx.out.below h2).more h2.size)
      have H2 := Lib.hid h2
      have Hw2 := Lib.hid hw2
      clear hka hkb hba hbb hs1 hw2 h2
      go_enter Try.func56, Try.ntmps56
      go_wp2_with fail
      rw [Hw2.out]
      refine (refMay5_any r N Al nl cl xs (some ⟨w.heap.size, 0, none⟩) 1 1 [u] (some ⟨w.heap.size + 1, 0, none⟩) 1 1 [a] w2 Hxx.out Hka.out Hkb.out rfl hl (by omega) hN Hok.out (by simpa using hu) (by simp) (rng1 ha) (two_one Hr.out)).mono ?_
      rintro e w3 ⟨rfl, hb3⟩
      have Hend := Lib.hid (H2.out.trans (hb3.mono H2.out.size))
      clear hb3
      go_wp2_with fail
      go_ret
      exact ⟨rfl, Hend.out⟩
    · have d1 : (a == b) = false := by simpa using hab
      have hr2 : false = r := by rw [← Hr.out]; exact (two_same hab).symm
      have HR := Lib.hid hr2
      clear hab hr2
      go_enter Try.func56, Try.ntmps56
      go_wp2_with fail
      go_ret
      exact ⟨ret_bool HR.out, Below.refl _ _⟩
  · have d0 : ((u : Int) == (v : Int)) = false := by simp; omega
    have hka := rd_two w .i64 3 (u : Int) (v : Int)
    have hkb := rd_two (w.alloc (Obj.cells #[.int .i64 (u : Int), .int .i64 (v : Int)] 3)) .u8 27 a b
    have hba := below_box (w := w) (Obj.cells #[.int .i64 (u : Int), .int .i64 (v : Int)] 3)
    have hbb := below_box (w := w.alloc (Obj.cells #[.int .i64 (u : Int), .int .i64 (v : Int)] 3)) (Obj.cells #[.int .u8 a, .int .u8 b] 27)
    have hs1 : (w.alloc (Obj.cells #[.int .i64 (u : Int), .int .i64 (v : Int)] 3)).heap.size = w.heap.size + 1 := by simp
    rw [hs1] at hkb
    obtain ⟨w2, hw2⟩ : ∃ x, (w.alloc (Obj.cells #[.int .i64 (u : Int), .int .i64 (v : Int)] 3)).alloc (Obj.cells #[.int .u8 a, .int .u8 b] 27) = x := ⟨_, rfl⟩
    rw [hw2] at hkb hbb
    have h2 := hba.trans (hbb.mono hba.size)
    have Hka := Lib.hid ((hka.below hbb).more hbb.size)
    have Hkb := Lib.hid hkb
    have Hxx := Lib.hid ((Hx.out.below h2).more h2.size)
    have H2 := Lib.hid h2
    have Hw2 := Lib.hid hw2
    clear hka hkb hba hbb hs1 hw2 h2
    have Huv := Lib.hid huv
    clear huv
    go_enter Try.func56, Try.ntmps56
    go_wp2_with fail
    rw [Hw2.out]
    refine (refMay5_any r N Al nl cl xs (some ⟨w.heap.size, 0, none⟩) 2 2 [u, v] (some ⟨w.heap.size + 1, 0, none⟩) 2 2 [a, b] w2 Hxx.out Hka.out Hkb.out rfl hl (by omega) hN Hok.out (by intro z hz; rcases List.mem_cons.1 hz with rfl | hz; exact hu; rw [List.mem_singleton.1 hz]; exact hv) (by simpa using Huv.out) (rng2 ha hb) (two_two Hr.out)).mono ?_
    rintro e w3 ⟨rfl, hb3⟩
    have Hend := Lib.hid (H2.out.trans (hb3.mono H2.out.size))
    clear hb3
    go_wp2_with fail
    go_ret
    exact ⟨rfl, Hend.out⟩
end Go.Proofs.Ythabkpkgocafoaa

