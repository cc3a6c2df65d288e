/- slices.Delete of one inequality out of a row of the call's own. -/
import Derived.Test.YthabkpkgocafoaaLawN
import Derived.Test.YthabkpkgocafoaaOrd
import Derived.Deep.RegionLaw
namespace Go.Proofs.Ythabkpkgocafoaa
set_option linter.unusedVariables false
set_option linter.unusedSimpArgs false
open Go.RowKit

theorem seg_set {α : Type} (cs : List α) (o : Nat) (v : α) (vs : List α) (h : o + (vs.length + 1) ≤ cs.length) : (cs.set o v).take (o + 1) ++ vs ++ (cs.set o v).drop (o + 1 + vs.length) = cs.take o ++ (v :: vs) ++ cs.drop (o + (vs.length + 1)) := by
  have ho : o < cs.length := by omega
  have h1 : (cs.set o v).take (o + 1) = cs.take o ++ [v] := by
    rw [List.set_eq_take_append_cons_drop, if_pos ho, List.take_append]
    have : (cs.take o).length = o := by rw [List.length_take]; omega
    rw [this, Nat.add_sub_cancel_left, List.take_of_length_le (by omega)]
    simp
  have h2 : (cs.set o v).drop (o + 1 + vs.length) = cs.drop (o + (vs.length + 1)) := by
    rw [List.drop_set_of_lt (by omega)]
    congr 1
    omega
  rw [h1, h2]
  simp
theorem own_setCells {base : Nat} {e : TypeId} {size g n c : Nat} : ∀ (vs : List Value) (cs : List Value) (o : Nat) (w : World), w.ownsRow base e size (.slice (some ⟨g, 0, none⟩) n c) n cs → o + vs.length ≤ cs.length →
    (w.setCells g o vs).ownsRow base e size (.slice (some ⟨g, 0, none⟩) n c) n (cs.take o ++ vs ++ cs.drop (o + vs.length)) ∧ w.grownBy (w.setCells g o vs) (some g)
  | [], cs, o, w, h, _ => by
    refine ⟨?_, World.grownBy.refl w _⟩
    simp only [List.append_nil, List.length_nil, Nat.add_zero, List.take_append_drop]
    exact h
  | v :: vs, cs, o, w, h, hl => by
    obtain ⟨h1, h2⟩ := h.stored o v
    simp only [List.length_cons] at hl
    obtain ⟨h3, h5⟩ := own_setCells vs (cs.set o v) (o + 1) _ h1 (by rw [List.length_set]; omega)
    rw [seg_set cs o v vs hl] at h3
    refine ⟨h3, ?_⟩
    exact ⟨h5.os.trans h2.os, h5.tape.trans h2.tape, h5.output.trans h2.output, Nat.le_trans h2.size h5.size, fun k hk hne => (h5.block k (Nat.lt_of_lt_of_le hk h2.size) hne).trans (h2.block k hk hne)⟩
theorem cellsQ_split (xs : List IneqD) (i : Nat) (hi : i ≤ xs.length) : (cellsQ xs).take (i * 4) = cellsQ (xs.take i) ∧ (cellsQ xs).drop (i * 4) = cellsQ (xs.drop i) := by
  have h := cellsQ_append (xs.take i) (xs.drop i)
  rw [List.take_append_drop] at h
  have hl : (cellsQ (xs.take i)).length = i * 4 := by rw [cellsQ_len, List.length_take, Nat.min_eq_left hi]
  rw [h]
  exact ⟨List.take_left' hl, List.drop_left' hl⟩
theorem zeroIneq : ∀ w : World, (zeroValue 31).run Try.prog w = .ok (.agg #[.int .i64 0, .int .u8 0, .int .u8 0, .int .i64 0]) w := Try.zeroValue31

set_option maxRecDepth 100000 in
set_option maxHeartbeats 2000000 in
theorem deleteQ_any (base g n cap i : Nat) (xs : List IneqD) (w : World) (h : w.ownsRow base 31 4 (.slice (some ⟨g, 0, none⟩) n cap) n (cellsQ xs)) (hi : i < n) (hn : n ≤ 1048576) :
    Calls Try.prog 23 #[.slice (some ⟨g, 0, none⟩) n cap, .int .i64 i, .int .i64 ((i : Int) + 1)] w fun e w' => ∃ c', e = .returned (.slice (some ⟨g, 0, none⟩) (n - 1) c') ∧ w'.ownsRow base 31 4 (.slice (some ⟨g, 0, none⟩) (n - 1) c') (n - 1) (cellsQ (xs.eraseIdx i)) ∧ w.grownBy w' (some g) := by
  obtain ⟨i0, hi0, hz0, hz1, hz2⟩ := info_parts ineqInfo
  have hxl : xs.length = n := by have := h.1; rw [cellsQ_len] at this; omega
  have hcap : n ≤ cap ∧ cap ≤ maxLen := by
    rcases h.2 with ⟨e0, _⟩ | ⟨_, c1, _, e0, _, _, k1, k2, _⟩
    · cases e0
    · cases e0; exact ⟨k1, k2⟩
  obtain ⟨hc1, hc2⟩ := hcap
  have hc63 : cap ≤ 9223372036854775807 := hc2
  have n63 : n ≤ 9223372036854775807 := by omega
  have i1 : (0 : Int) ≤ (i : Int) := by omega
  have i2 : (i : Int) < n := by omega
  have i3 : (i : Int) + 1 ≤ n := by omega
  have d0 : ((i : Int) == (i : Int) + 1) = false := by simp; omega
  have i4 : (0 : Int) ≤ (i : Int) + 1 := by omega
  have i5 : i ≤ cap := by omega
  have i6 : i + (n - (i + 1)) = n - 1 := by omega
  have H := Lib.hid h
  clear h
  go_enter Try.func23, Try.ntmps23
  go_wp2_with fail
  obtain ⟨A, hA, hsrc⟩ : ∃ A : Addr, (if cap = i + 1 then (some ⟨g, 0, none⟩ : Option Addr) else some ⟨g, (i + 1) * 4, none⟩) = some A ∧ Hid (∀ j v, ((cellsQ xs).drop ((i + 1) * 4))[j]? = some v → w.drew.cell? (A.add j) = some v) := by
    by_cases hcp : cap = i + 1
    · refine ⟨⟨g, 0, none⟩, by rw [if_pos hcp], Lib.hid fun j v hj => ?_⟩
      have := (List.getElem?_eq_some_iff.1 hj).1
      rw [List.length_drop, cellsQ_len] at this
      omega
    · refine ⟨⟨g, (i + 1) * 4, none⟩, by rw [if_neg hcp], Lib.hid fun j v hj => ?_⟩
      rw [show Addr.add ⟨g, (i + 1) * 4, none⟩ j = ⟨g, (i + 1) * 4 + j, none⟩ from by unfold Addr.add; split <;> simp_all]
      have hj' := (List.getElem?_eq_some_iff.1 hj).1
      rw [List.length_drop, cellsQ_len] at hj'
      rw [List.getElem?_drop] at hj
      rw [← hj]
      exact H.out.cellAt _ (by omega)
  refine wp_region_noPanic ?_
  refine wp_region_T (fun w' => True) 8 (by kernel_rfl) trivial (fun hHeld => ?_)
  refine wpAnyT_take (i := 0) (v := ?_) rfl (by kernel_rfl) (by kernel_rfl) (by kernel_rfl) (by kernel_rfl) (fun _ _ _ h => h) (Or.inl ⟨by rfl, ?_⟩) (by assumption) ?_
  rotate_left
  · (intro w hSw; (try dsimp only at hSw); first | (go_simp; done) | (go_simp; with_reducible rfl))
  try simp only [Act.put, List.getElem_toArray, List.getElem_cons_zero, List.getElem_cons_succ, List.setIfInBounds_toArray, List.set_cons_zero, List.set_cons_succ]
  refine wpAnyT_take (i := 1) (v := ?_) rfl (by kernel_rfl) (by kernel_rfl) (by kernel_rfl) (by kernel_rfl) (fun _ _ _ h => h) (Or.inl ⟨by rfl, ?_⟩) (by assumption) ?_
  rotate_left
  · (intro w hSw; (try dsimp only at hSw); first | (go_simp; done) | (go_simp; with_reducible rfl))
  try simp only [Act.put, List.getElem_toArray, List.getElem_cons_zero, List.getElem_cons_succ, List.setIfInBounds_toArray, List.set_cons_zero, List.set_cons_succ]
  refine wpAnyT_take (i := 2) (v := ?_) rfl (by kernel_rfl) (by kernel_rfl) (by kernel_rfl) (by kernel_rfl) (fun _ _ _ h => h) (Or.inl ⟨by rfl, ?_⟩) (by assumption) ?_
  rotate_left
  · (intro w hSw; (try dsimp only at hSw); first | (go_simp; done) | (go_simp; with_reducible rfl))
  try simp only [Act.put, List.getElem_toArray, List.getElem_cons_zero, List.getElem_cons_succ, List.setIfInBounds_toArray, List.set_cons_zero, List.set_cons_succ]
  refine wpAnyT_take (i := 3) (v := ?_) rfl (by kernel_rfl) (by kernel_rfl) (by kernel_rfl) (by kernel_rfl) (fun _ _ _ h => h) (Or.inl ⟨by rfl, ?_⟩) (by assumption) ?_
  rotate_left
  · (intro w hSw; (try dsimp only at hSw); first | (go_simp; done) | (go_simp; with_reducible rfl))
  try simp only [Act.put, List.getElem_toArray, List.getElem_cons_zero, List.getElem_cons_succ, List.setIfInBounds_toArray, List.set_cons_zero, List.set_cons_succ]
  refine wpAnyT_take (i := 4) (v := ?_) rfl (by kernel_rfl) (by kernel_rfl) (by kernel_rfl) (by kernel_rfl) (fun _ _ _ h => h) (Or.inl ⟨by rfl, ?_⟩) (by assumption) ?_
  rotate_left
  · (intro w hSw; (try dsimp only at hSw); first | (go_simp; done) | (go_simp; with_reducible rfl))
  try simp only [Act.put, List.getElem_toArray, List.getElem_cons_zero, List.getElem_cons_succ, List.setIfInBounds_toArray, List.set_cons_zero, List.set_cons_succ]
  refine wpAnyT_take (i := 5) (v := ?_) rfl (by kernel_rfl) (by kernel_rfl) (by kernel_rfl) (by kernel_rfl) (fun _ _ _ h => h) (Or.inl ⟨by rfl, ?_⟩) (by assumption) ?_
  rotate_left
  · (intro w hSw; (try dsimp only at hSw); first | (go_simp; done) | (go_simp; with_reducible rfl))
  try simp only [Act.put, List.getElem_toArray, List.getElem_cons_zero, List.getElem_cons_succ, List.setIfInBounds_toArray, List.set_cons_zero, List.set_cons_succ]
  have hl1 : (cellsQ xs).length = n * 4 := by rw [cellsQ_len, hxl]
  have hnl : ((cellsQ xs).drop ((i + 1) * 4)).length = (n - (i + 1)) * 4 := by rw [List.length_drop, hl1]; omega
  refine wpAnyT_step (i := 6) (by kernel_rfl) rfl (fun K hK => ?_)
  (refine step_append_room rfl (.tmp 22) (.tmp 25) 35 (by rfl) 31 i0 4 Try.underlying35 hi0 hz1 g 0 i cap (by rfl) A (n - (i + 1)) (cap - (i + 1)) ((cellsQ xs).drop ((i + 1) * 4)) (by rfl) hnl hsrc.out (fun u hu => cellsQ_one xs u (List.mem_of_mem_drop hu)) (by omega) ?_ ?_; intro j hj; refine ⟨?_, H.out.frozenAt _⟩; show (w.cell? _).isSome = true; rw [H.out.cellAt _ (by omega), List.getElem?_eq_getElem (by omega)]; rfl)
  refine hK.out _ _ trivial ?_
  clear hK K
  try simp only [Act.put, List.getElem_toArray, List.getElem_cons_zero, List.getElem_cons_succ, List.setIfInBounds_toArray, List.set_cons_zero, List.set_cons_succ]
  refine wpAnyT_step (i := 7) (by kernel_rfl) rfl (fun K hK => ?_)
  go_simp
  refine hK.out _ _ trivial ?_
  clear hK K
  try simp only [Act.put, List.getElem_toArray, List.getElem_cons_zero, List.getElem_cons_succ, List.setIfInBounds_toArray, List.set_cons_zero, List.set_cons_succ]
  refine wpAnyT_seq 8 (by omega) (by rfl) (by kernel_rfl) ?_
  simp only [List.drop_succ_cons, List.drop_zero]
  have hsp := cellsQ_split xs i (by omega)
  have hsp2 := cellsQ_split xs (i + 1) (by omega)
  obtain ⟨ho2, hg2⟩ := own_setCells (base := base) (e := 31) (size := 4) (g := g) (n := n) (c := cap) ((cellsQ xs).drop ((i + 1) * 4)) (cellsQ xs) (i * 4) w.drew H.out (by rw [hnl, hl1]; omega)
  rw [hsp.1, hsp2.2, ← cellsQ_append, ← List.eraseIdx_eq_take_drop_succ] at ho2
  rw [hsp2.2] at hg2 ⊢
  have hel : (cellsQ (xs.eraseIdx i)).length = (n - 1) * 4 := by rw [cellsQ_len, List.length_eraseIdx, if_pos (by omega), hxl]
  generalize hW2 : w.drew.setCells g (i * 4) (cellsQ (xs.drop (i + 1))) = w2 at ho2 hg2 ⊢
  clear hW2
  obtain ⟨w3, hclr, ho3, hg3⟩ : ∃ w3, (Builtin.clear_ #[35] 0 #[.slice (some ⟨g, (n - 1) * 4, none⟩) 1 (cap - (n - 1))]).run Try.prog w2 = .ok (.tuple #[]) w3 ∧ w3.ownsRow base 31 4 (.slice (some ⟨g, 0, none⟩) (n - 1) cap) (n - 1) (cellsQ (xs.eraseIdx i)) ∧ w2.grownBy w3 (some g) := by
    have hl2 := ho2.1
    have hcl := run_clear_cells (P := Try.prog) w2 35 31 0 _ #[.int .i64 0, .int .u8 0, .int .u8 0, .int .i64 0] Try.underlying35 zeroIneq rfl (by intro u hu; simp at hu; rcases hu with rfl | rfl | rfl | rfl <;> rfl) (by simp) g ((n - 1) * 4) 1 (cap - (n - 1)) (by omega) (fun j hj => by
      have hj' : j < 4 := by simpa using hj
      rw [ho2.cellAt _ (by omega), List.getElem?_eq_getElem (by omega)]; rfl) (fun j hj => ho2.frozenAt _)
    have hzl : (Builtin.zeroCells #[Value.int .i64 0, .int .u8 0, .int .u8 0, .int .i64 0] 1).toList.length = 4 := by rw [Array.length_toList, size_zeroCells]; rfl
    obtain ⟨ho3, hg3⟩ := own_setCells (Builtin.zeroCells #[Value.int .i64 0, .int .u8 0, .int .u8 0, .int .i64 0] 1).toList _ ((n - 1) * 4) w2 ho2 (by rw [hzl, hl2]; omega)
    have hcut := ownsRow_cut ho3 (i := n - 1) (by omega)
    refine ⟨_, hcl, ?_, hg3⟩
    rw [List.take_append_of_le_length (by simp [hel]), List.take_append_of_le_length (by simp [hel]), List.take_take, Nat.min_self, List.take_append_of_le_length (by omega), List.take_of_length_le (by omega)] at hcut
    exact hcut
  have hgf : w.grownBy w3 (some g) := ⟨hg3.os.trans hg2.os, hg3.tape.trans hg2.tape, hg3.output.trans hg2.output, Nat.le_trans hg2.size hg3.size, fun k hk hne => (hg3.block k (Nat.lt_of_lt_of_le hk hg2.size) hne).trans (hg2.block k hk hne)⟩
  have Ho3 := Lib.hid ho3
  have Hgf := Lib.hid hgf
  clear ho2 hg2 ho3 hg3 hgf hsp hsp2 hsrc hHeld hA
  have q1 : ((n - 1 : Nat) : Int) ≤ n := by omega
  have q2 : ¬ cap = n - 1 := by omega
  have q3 : n - (n - 1) = 1 := by omega
  have q4 : (0 : Int) ≤ ((n - 1 : Nat) : Int) := by omega
  have q5 : n - 1 ≤ n := by omega
  go_wp2_with fail
  refine NoPanic.normal ?_
  go_wp2_with fail
  go_ret
  exact ⟨cap, rfl, Ho3.out, Hgf.out⟩

end Go.Proofs.Ythabkpkgocafoaa
