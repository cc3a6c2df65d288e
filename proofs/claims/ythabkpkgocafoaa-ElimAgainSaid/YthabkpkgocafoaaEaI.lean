/- Texts of this claim, laid one behind the other: ElimG, ElimF, ElimJ, ElimK. -/
import Derived.Test.YthabkpkgocafoaaEaH
import Derived.Test.YthabkpkgocafoaaEaC
import Derived.Test.YthabkpkgocafoaaEaE
import Derived.Test.YthabkpkgocafoaaEaG
import Derived.BigQuiet
import Derived.Lib.QuietBelow
import Derived.Test.YthabkpkgocafoaaEaK
/- Plain: what comes of what Project tells. -/
namespace Go.Proofs.Ythabkpkgocafoaa
set_option linter.unusedVariables false
set_option linter.unusedSimpArgs false
open Go.RowKit

theorem may_cg {x : IneqD} {n : Int} (h : mayL x n = true) : 1 ≤ x.c ∧ x.c ≤ 3 := by
  unfold mayL mayX mayQ at h
  simp only [Bool.and_eq_true, decide_eq_true_eq] at h
  exact ⟨h.1.1.1.1.1.2, h.1.1.1.1.2⟩
theorem OkS.well {N : Nat} {low : List Int} {xs : List IneqD} (h : OkS (N : Int) low xs) : WellE N xs := fun x hx => ⟨OverL.of_may (h.may x hx), (may_cg (h.may x hx)).1⟩
theorem low0_nil (N : Nat) : low0 (N : Int) [] = List.replicate N 1 := by simp [low0]
theorem SolE.solv1 {N : Nat} {xs : List IneqD} {f : List Int} (h : SolE N xs f) : SolvL xs (low0 (N : Int) []) f := by
  rw [low0_nil]
  exact h.solv (by simp) fun v hv => by rw [ones_at hv]; exact (h.1.2 v hv).1
/-- what is told where all is well -/
structure TableR (N : Nat) (xs : List IneqD) (keep : List Int) (t : TabD) : Prop where
  n20 : N ≤ 1048576
  l20 : xs.length ≤ 1048576
  few : keep.length ≤ 150
  ok : OkS (N : Int) [] xs
  keeps : KeepOk (N : Int) keep
  ex : ∃ low, SolE N xs low ∧ (∀ g, SolE N xs g → ∀ v, v < N → low.getD v 0 ≤ g.getD v 0) ∧ ProjE N xs low (keep.map Int.toNat) t
section
variable {N : Nat} {n : Int} {xs : List IneqD} {keep : List Int} {t : TabD} {er : Int}
theorem ProjR.table (h : ProjR n xs keep t er) (he : er = 0) : ∃ N : Nat, n = (N : Int) ∧ TableR N xs keep t := by
  rcases h with ⟨_, _, e⟩ | ⟨hk, a, core, e1, hS, h⟩
  · omega
  · rcases h with ⟨h1, _, e⟩ | ⟨_, _, _, e⟩ | ⟨h1, hok, _, hp⟩
    · omega
    · omega
    · obtain ⟨h2, h3, h4, h5, _⟩ := hS.zero h1
      obtain ⟨N, rfl⟩ : ∃ N : Nat, n = (N : Int) := ⟨n.toNat, (Int.toNat_of_nonneg h4.n0).symm⟩
      rw [low0_nil] at h5
      obtain ⟨q1, q2⟩ := least_ones h4.well h5
      exact ⟨N, rfl, by omega, h3, hk, h4, hok, a, q1, q2, by rw [Int.toNat_natCast] at hp; exact hp⟩
theorem ProjR.yes (h : ProjR (N : Int) xs keep t er) (hn : N ≤ 1048576) (hl : xs.length ≤ 1048576) (hok : OkS (N : Int) [] xs) (hk : keep.length ≤ 150) {f : List Int} (hf : SolE N xs f) (hkeep : KeepOk (N : Int) keep) : er = 0 := by
  rcases h with ⟨h, _, _⟩ | ⟨_, a, core, e1, hS, h⟩
  · omega
  · have h0 := (hS.solv hn hl hok hf.solv1).1
    rcases h with ⟨h1, _, e⟩ | ⟨_, h2, _, e⟩ | ⟨h1, _, e, _⟩
    · omega
    · exact absurd hkeep h2
    · exact e
theorem TableR.nat (h : TableR N xs keep t) : ∀ v ∈ keep.map Int.toNat, v < N := fun v hv => by
  obtain ⟨z, hz, rfl⟩ := List.mem_map.1 hv
  have := h.keeps.1 z hz
  omega
theorem TableR.tab (h : TableR N xs keep t) : TabOf keep.length (KeptE N xs (keep.map Int.toNat)) t := by
  obtain ⟨low, h1, h2, h3⟩ := h.ex
  have := proj_tab h.ok.well h1 h2 h.nat h3
  rwa [List.length_map] at this
theorem TableR.ok_ (h : TableR N xs keep t) : OkTab keep.length t := h.tab.ok h.few
theorem TableR.ref (h : TableR N xs keep t) : t = refTab N xs (keep.map Int.toNat) := by
  obtain ⟨low, h1, h2, h3⟩ := h.ex
  exact proj_ref h.ok.well h1 h2 h.nat h3
/-- no solution -/
theorem ProjR.none (h : ProjR (N : Int) xs keep t er) (hn : N ≤ 1048576) (hl : xs.length ≤ 1048576) (hok : OkS (N : Int) [] xs) (hk : keep.length ≤ 150) (hno : ∀ f, SolE N xs f → False) : er = 40 ∧ t = emptyT := by
  rcases h with ⟨h, _, _⟩ | ⟨_, a, core, e1, hS, h⟩
  · omega
  · have h0 : e1 = 40 := by
      refine (hS.none hn hl hok fun b hb => ?_).1
      rw [low0_nil] at hb
      obtain ⟨g, hg, _⟩ := hb.cut hok.well (by simp) (fun v hv => by rw [ones_at hv]; exact Int.le_refl _)
      exact hno g hg
    rcases h with ⟨h1, e2, e⟩ | ⟨h1, _⟩ | ⟨h1, _⟩
    · exact ⟨by omega, e2⟩
    · omega
    · omega
theorem ProjR.long (h : ProjR n xs keep t er) (hk : 150 < keep.length) : er = 3 ∧ t = emptyT := by
  rcases h with ⟨_, e1, e2⟩ | ⟨h, _⟩
  · exact ⟨e2, e1⟩
  · omega
theorem ProjR.bad (h : ProjR (N : Int) xs keep t er) (hn : N ≤ 1048576) (hl : xs.length ≤ 1048576) (hok : OkS (N : Int) [] xs) (hk : keep.length ≤ 150) {f : List Int} (hf : SolE N xs f) (hkeep : ¬ KeepOk (N : Int) keep) : er = 2 ∧ t = emptyT := by
  rcases h with ⟨h, _, _⟩ | ⟨_, a, core, e1, hS, h⟩
  · omega
  · have h0 := (hS.solv hn hl hok hf.solv1).1
    rcases h with ⟨h1, _, e⟩ | ⟨_, h2, e1, e⟩ | ⟨h1, h2, e, _⟩
    · omega
    · exact ⟨e, e1⟩
    · exact absurd h2 hkeep
theorem ProjR.mayNot (h : ProjR n xs keep t er) (hn : n ≤ 1048576) (hl : xs.length ≤ 1048576) (hok : ¬ OkS n [] xs) (hk : keep.length ≤ 150) : er = 2 ∧ t = emptyT := by
  rcases h with ⟨h, _, _⟩ | ⟨_, a, core, e1, hS, h⟩
  · omega
  · have h0 := (hS.bad hn hl hok).2.2
    rcases h with ⟨h1, e1, e⟩ | ⟨h1, _, _, _⟩ | ⟨h1, _, _, _⟩
    · exact ⟨by omega, e1⟩
    · omega
    · omega
end
theorem okE0 : OkS ((4 : Nat) : Int) [] xsE0 := ⟨by decide, Or.inl rfl, by unfold xsE0; decide, fun z hz => by cases hz⟩
theorem okE1 : OkS ((4 : Nat) : Int) [] xsE1 := ⟨by decide, Or.inl rfl, by unfold xsE1; decide, fun z hz => by cases hz⟩
theorem okE2 : OkS ((4 : Nat) : Int) [] xsE2 := ⟨by decide, Or.inl rfl, by unfold xsE2; decide, fun z hz => by cases hz⟩
theorem okE3 : OkS ((4 : Nat) : Int) [] xsE3 := ⟨by decide, Or.inl rfl, by unfold xsE3; decide, fun z hz => by cases hz⟩
theorem okNil (N : Nat) : OkS (N : Int) [] [] := ⟨Int.natCast_nonneg _, Or.inl rfl, fun x hx => absurd hx (by simp), fun z hz => absurd hz (by simp)⟩
theorem keep02 : KeepOk ((4 : Nat) : Int) [0, 2] := ⟨by decide, by decide⟩
theorem known0 {t : TabD} {er : Int} (h : ProjR ((4 : Nat) : Int) xsE0 [0, 2] t er) : er = 0 ∧ t = ⟨[1, 1], [3, 3], [[1, 2], [3, 1]]⟩ ∧ OkTab 2 t := by
  have h0 := h.yes (by decide) (by decide) okE0 (by decide) (f := [1, 1, 1, 1]) (solB_sol (by decide)) keep02
  obtain ⟨N, hN, ht⟩ := h.table h0
  obtain rfl : N = 4 := by omega
  exact ⟨h0, ht.tab.unique tabE0, ht.ok_⟩
theorem known1 {t : TabD} {er : Int} (h : ProjR ((4 : Nat) : Int) xsE1 [0, 2] t er) : er = 0 ∧ t = ⟨[2, 2], [3, 3], [[1, 1], [3, 1]]⟩ := by
  have h0 := h.yes (by decide) (by decide) okE1 (by decide) (f := [2, 2, 2, 1]) (solB_sol (by decide)) keep02
  obtain ⟨N, hN, ht⟩ := h.table h0
  obtain rfl : N = 4 := by omega
  exact ⟨h0, ht.tab.unique tabE1⟩
theorem known2 {t : TabD} {er : Int} (h : ProjR ((4 : Nat) : Int) xsE2 [0, 2] t er) : er = 0 ∧ t = ⟨[1, 1], [3, 2], [[1, 3], [1, 1]]⟩ := by
  have h0 := h.yes (by decide) (by decide) okE2 (by decide) (f := [1, 1, 1, 1]) (solB_sol (by decide)) keep02
  obtain ⟨N, hN, ht⟩ := h.table h0
  obtain rfl : N = 4 := by omega
  exact ⟨h0, ht.tab.unique tabE2⟩
theorem known3 {t : TabD} {er : Int} (h : ProjR ((4 : Nat) : Int) xsE3 [0, 2] t er) : er = 40 := (h.none (by decide) (by decide) okE3 (by decide) fun f hf => noneE3 hf).1
theorem known5 {t : TabD} {er : Int} (h : ProjR ((2 : Nat) : Int) [] [1, 1] t er) : er = 2 := (h.bad (by decide) (by decide) (okNil 2) (by decide) (f := [1, 1]) (solB_sol (by decide)) (fun h => absurd h.2 (by decide))).1
theorem lets21 : LetsA 2 ⟨[1, 1], [3, 3], [[1, 2], [3, 1]]⟩ [2, 1] := ⟨rfl, by decide, fun i hi => by
  rcases lt2 hi with rfl | rfl
  · exact ⟨by decide, by decide, fun j hj => by rcases lt2 hj with rfl | rfl <;> decide⟩
  · exact ⟨by decide, by decide, fun j hj => by rcases lt2 hj with rfl | rfl <;> decide⟩⟩
theorem lets32 : ¬ LetsA 2 ⟨[1, 1], [3, 3], [[1, 2], [3, 1]]⟩ [3, 2] := fun h => by
  have := (h.2.2 0 (by decide)).2.2 1 (by decide)
  revert this
  decide
end Go.Proofs.Ythabkpkgocafoaa

/- Contracts: the helpers of layer 5's statements: below, above, told. -/
namespace Go.Proofs.Ythabkpkgocafoaa
set_option linter.unusedVariables false
set_option linter.unusedSimpArgs false
open Go.RowKit

def toldT (l0 l1 u0 u1 ac ca : Int) : TabD := ⟨[l0, l1], [u0, u1], [[1, ac], [ca, 1]]⟩
theorem rd_blkK {w : World} {g K : Nat} {t : TypeId} {k : IntKind} {us : List Int} (h : Blk w g t (us.map (Value.int k)).toArray) (hl : us.length = K) (hK : K ≤ maxLen) : RdI k w w.heap.size (some ⟨g, 0, none⟩) K K us :=
  (show RowC w g t k us from ⟨_, h, by simp, fun i hi => by simp [hi]⟩).rd hl (Nat.le_refl _) hK
theorem six_facts (w : World) (a b c d e f : Obj) :
    ((((((w.alloc a).alloc b).alloc c).alloc d).alloc e).alloc f).heap[w.heap.size]? = some a ∧
    ((((((w.alloc a).alloc b).alloc c).alloc d).alloc e).alloc f).heap[w.heap.size + 1]? = some b ∧
    ((((((w.alloc a).alloc b).alloc c).alloc d).alloc e).alloc f).heap[w.heap.size + 1 + 1]? = some c ∧
    ((((((w.alloc a).alloc b).alloc c).alloc d).alloc e).alloc f).heap[w.heap.size + 1 + 1 + 1]? = some d ∧
    ((((((w.alloc a).alloc b).alloc c).alloc d).alloc e).alloc f).heap[w.heap.size + 1 + 1 + 1 + 1]? = some e ∧
    ((((((w.alloc a).alloc b).alloc c).alloc d).alloc e).alloc f).heap[w.heap.size + 1 + 1 + 1 + 1 + 1]? = some f ∧
    Below w.heap.size w ((((((w.alloc a).alloc b).alloc c).alloc d).alloc e).alloc f) := by
  have s := fun (W : World) (o : Obj) => World.size_alloc W o
  have nw := fun (W : World) (o : Obj) => heap_alloc_new W o
  have old := fun (W : World) (o : Obj) (k : Nat) (hk : k < W.heap.size) => Below.heap_alloc W o k hk
  refine ⟨?_, ?_, ?_, ?_, ?_, ?_, ?_⟩
  · rw [old _ _ _ (by simp only [s]; omega), old _ _ _ (by simp only [s]; omega), old _ _ _ (by simp only [s]; omega), old _ _ _ (by simp only [s]; omega), old _ _ _ (by simp only [s]; omega)]
    exact nw _ _
  · rw [old _ _ _ (by simp only [s]; omega), old _ _ _ (by simp only [s]; omega), old _ _ _ (by simp only [s]; omega), old _ _ _ (by simp only [s]; omega)]
    have := nw (w.alloc a) b
    rwa [s] at this
  · rw [old _ _ _ (by simp only [s]; omega), old _ _ _ (by simp only [s]; omega), old _ _ _ (by simp only [s]; omega)]
    have := nw ((w.alloc a).alloc b) c
    rwa [s, s] at this
  · rw [old _ _ _ (by simp only [s]; omega), old _ _ _ (by simp only [s]; omega)]
    have := nw (((w.alloc a).alloc b).alloc c) d
    rwa [s, s, s] at this
  · rw [old _ _ _ (by simp only [s]; omega)]
    have := nw ((((w.alloc a).alloc b).alloc c).alloc d) e
    rwa [s, s, s, s] at this
  · have := nw (((((w.alloc a).alloc b).alloc c).alloc d).alloc e) f
    rwa [s, s, s, s, s] at this
  · exact (((((below_box (w := w) a).trans ((below_box _).mono (by simp))).trans ((below_box _).mono (by simp only [s]; omega))).trans ((below_box _).mono (by simp only [s]; omega))).trans ((below_box _).mono (by simp only [s]; omega))).trans ((below_box _).mono (by simp only [s]; omega))
theorem told_tab {W : World} {p1 p2 p3 q1 q2 : Nat} {t1 t2 t3 t4 t5 : TypeId} {l0 l1 u0 u1 ac ca : Int} (h1 : Blk W p1 t1 #[.int .u8 l0, .int .u8 l1]) (h2 : Blk W p2 t2 #[.int .u8 u0, .int .u8 u1]) (h3 : Blk W p3 t3 #[.slice (some ⟨q1, 0, none⟩) 2 2, .slice (some ⟨q2, 0, none⟩) 2 2]) (h4 : Blk W q1 t4 #[.int .u8 1, .int .u8 ac]) (h5 : Blk W q2 t5 #[.int .u8 ca, .int .u8 1]) :
    TabV W W.heap.size (.agg #[.slice (some ⟨p1, 0, none⟩) 2 2, .slice (some ⟨p2, 0, none⟩) 2 2, .slice (some ⟨p3, 0, none⟩) 2 2]) (toldT l0 l1 u0 u1 ac ca) := by
  have m2 : 2 ≤ maxLen := by unfold maxLen; omega
  refine ⟨_, 2, _, 2, _, 2, rfl, rd_blkK (us := [l0, l1]) h1 rfl m2, rd_blkK (us := [u0, u1]) h2 rfl m2, rfl, Nat.le_refl _, m2, fun _ => ⟨p3, 0, rfl, h3.lt, fun i hi => ?_⟩⟩
  have hi : i < 2 := hi
  have h0 : i = 0 ∨ i = 1 := by omega
  rcases h0 with rfl | rfl
  · exact ⟨_, 2, h3.cell 0, rd_blkK (us := [1, ac]) h4 rfl m2⟩
  · exact ⟨_, 2, h3.cell 1, rd_blkK (us := [ca, 1]) h5 rfl m2⟩
set_option maxRecDepth 100000 in
set_option maxHeartbeats 1000000 in
theorem told_any (l0 l1 u0 u1 ac ca : Int) (w : World) : Calls Try.prog 30 #[.agg #[.int .u8 l0, .int .u8 l1], .agg #[.int .u8 u0, .int .u8 u1], .int .u8 ac, .int .u8 ca] w fun e w' => ∃ v, e = .returned v ∧ TabV w' w'.heap.size v (toldT l0 l1 u0 u1 ac ca) ∧ Below w.heap.size w w' := by
  go_enter Try.func30, Try.ntmps30
  go_wp2_with fail
  go_region
  · skip
    have hf := six_facts w (Obj.cells #[.int .u8 l0, .int .u8 l1] 57) (Obj.cells #[.int .u8 u0, .int .u8 u1] 57) (Obj.cells #[.slice (some ⟨w.heap.size, 0, none⟩) 2 2, .slice (some ⟨w.heap.size + 1, 0, none⟩) 2 2, .slice (some ⟨w.heap.size + 1 + 1 + 1 + 1 + 1, 0, none⟩) 2 2] 50) (Obj.cells #[.int .u8 1, .int .u8 ac] 27) (Obj.cells #[.int .u8 ca, .int .u8 1] 27) (Obj.cells #[.slice (some ⟨w.heap.size + 1 + 1 + 1, 0, none⟩) 2 2, .slice (some ⟨w.heap.size + 1 + 1 + 1 + 1, 0, none⟩) 2 2] 22)
    generalize ((((((w.alloc (Obj.cells #[.int .u8 l0, .int .u8 l1] 57)).alloc (Obj.cells #[.int .u8 u0, .int .u8 u1] 57)).alloc (Obj.cells #[.slice (some ⟨w.heap.size, 0, none⟩) 2 2, .slice (some ⟨w.heap.size + 1, 0, none⟩) 2 2, .slice (some ⟨w.heap.size + 1 + 1 + 1 + 1 + 1, 0, none⟩) 2 2] 50)).alloc (Obj.cells #[.int .u8 1, .int .u8 ac] 27)).alloc (Obj.cells #[.int .u8 ca, .int .u8 1] 27)).alloc (Obj.cells #[.slice (some ⟨w.heap.size + 1 + 1 + 1, 0, none⟩) 2 2, .slice (some ⟨w.heap.size + 1 + 1 + 1 + 1, 0, none⟩) 2 2] 22)) = W at hf ⊢
    obtain ⟨b1, b2, b3, b4, b5, b6, hbW⟩ := hf
    have htab := told_tab (W := W.drew) b1 b2 b6 b4 b5
    have hbd := hbW.drew
    have d0 : W.drew.cell? ⟨w.heap.size + 1 + 1, 0, none⟩ = some (.slice (some ⟨w.heap.size, 0, none⟩) 2 2) := Blk.cell (w := W.drew) b3 0
    have d1 : W.drew.cell? ⟨w.heap.size + 1 + 1, 1, none⟩ = some (.slice (some ⟨w.heap.size + 1, 0, none⟩) 2 2) := Blk.cell (w := W.drew) b3 1
    have d2 : W.drew.cell? ⟨w.heap.size + 1 + 1, 2, none⟩ = some (.slice (some ⟨w.heap.size + 1 + 1 + 1 + 1 + 1, 0, none⟩) 2 2) := Blk.cell (w := W.drew) b3 2
    generalize W.drew = W2 at htab hbd d0 d1 d2 ⊢
    go_wp2_with fail
    exact bodyPost_ret (v := .agg #[.slice (some ⟨w.heap.size, 0, none⟩) 2 2, .slice (some ⟨w.heap.size + 1, 0, none⟩) 2 2, .slice (some ⟨w.heap.size + 1 + 1 + 1 + 1 + 1, 0, none⟩) 2 2]) (by simp [results, Try.results30, go_sem, d0, d1, d2]) rfl ⟨_, rfl, htab, hbd⟩
  · skip
    have hf := six_facts w (Obj.cells #[.int .u8 l0, .int .u8 l1] 57) (Obj.cells #[.int .u8 u0, .int .u8 u1] 57) (Obj.cells #[.slice (some ⟨w.heap.size, 0, none⟩) 2 2, .slice (some ⟨w.heap.size + 1, 0, none⟩) 2 2, .slice (some ⟨w.heap.size + 1 + 1 + 1 + 1 + 1, 0, none⟩) 2 2] 50) (Obj.cells #[.int .u8 ca, .int .u8 1] 27) (Obj.cells #[.int .u8 1, .int .u8 ac] 27) (Obj.cells #[.slice (some ⟨w.heap.size + 1 + 1 + 1 + 1, 0, none⟩) 2 2, .slice (some ⟨w.heap.size + 1 + 1 + 1, 0, none⟩) 2 2] 22)
    generalize ((((((w.alloc (Obj.cells #[.int .u8 l0, .int .u8 l1] 57)).alloc (Obj.cells #[.int .u8 u0, .int .u8 u1] 57)).alloc (Obj.cells #[.slice (some ⟨w.heap.size, 0, none⟩) 2 2, .slice (some ⟨w.heap.size + 1, 0, none⟩) 2 2, .slice (some ⟨w.heap.size + 1 + 1 + 1 + 1 + 1, 0, none⟩) 2 2] 50)).alloc (Obj.cells #[.int .u8 ca, .int .u8 1] 27)).alloc (Obj.cells #[.int .u8 1, .int .u8 ac] 27)).alloc (Obj.cells #[.slice (some ⟨w.heap.size + 1 + 1 + 1 + 1, 0, none⟩) 2 2, .slice (some ⟨w.heap.size + 1 + 1 + 1, 0, none⟩) 2 2] 22)) = W at hf ⊢
    obtain ⟨b1, b2, b3, b4, b5, b6, hbW⟩ := hf
    have htab := told_tab (W := W.drew) b1 b2 b6 b5 b4
    have hbd := hbW.drew
    have d0 : W.drew.cell? ⟨w.heap.size + 1 + 1, 0, none⟩ = some (.slice (some ⟨w.heap.size, 0, none⟩) 2 2) := Blk.cell (w := W.drew) b3 0
    have d1 : W.drew.cell? ⟨w.heap.size + 1 + 1, 1, none⟩ = some (.slice (some ⟨w.heap.size + 1, 0, none⟩) 2 2) := Blk.cell (w := W.drew) b3 1
    have d2 : W.drew.cell? ⟨w.heap.size + 1 + 1, 2, none⟩ = some (.slice (some ⟨w.heap.size + 1 + 1 + 1 + 1 + 1, 0, none⟩) 2 2) := Blk.cell (w := W.drew) b3 2
    generalize W.drew = W2 at htab hbd d0 d1 d2 ⊢
    go_wp2_with fail
    exact bodyPost_ret (v := .agg #[.slice (some ⟨w.heap.size, 0, none⟩) 2 2, .slice (some ⟨w.heap.size + 1, 0, none⟩) 2 2, .slice (some ⟨w.heap.size + 1 + 1 + 1 + 1 + 1, 0, none⟩) 2 2]) (by simp [results, Try.results30, go_sem, d0, d1, d2]) rfl ⟨_, rfl, htab, hbd⟩

theorem below5_any (v c r : Int) (w : World) : Calls Try.prog 27 #[.int .i64 v, .int .u8 c, .int .i64 r] w fun e w' => e = .returned (.agg #[.int .i64 v, .int .u8 0, .int .u8 c, .int .i64 r]) ∧ Below w.heap.size w w' := by
  have hX := blk_new w #[.int .i64 v, .int .u8 0, .int .u8 c, .int .i64 r] 31
  have hb := below_box (w := w) (Obj.cells #[.int .i64 v, .int .u8 0, .int .u8 c, .int .i64 r] 31)
  have d0 := hX.cell 0
  have d1 := hX.cell 1
  have d2 := hX.cell 2
  have d3 := hX.cell 3
  simp only [List.getElem?_toArray, List.getElem?_cons_zero, List.getElem?_cons_succ] at d0 d1 d2 d3
  go_enter Try.func27, Try.ntmps27
  go_wp2_with fail
  generalize w.alloc (Obj.cells #[.int .i64 v, .int .u8 0, .int .u8 c, .int .i64 r] 31) = w3 at hb d0 d1 d2 d3 ⊢
  exact bodyPost_ret (v := .agg #[.int .i64 v, .int .u8 0, .int .u8 c, .int .i64 r]) (by simp [results, Try.results27, go_sem, d0, d1, d2, d3]) rfl ⟨rfl, hb⟩
theorem above5_any (m v : Int) (w : World) : Calls Try.prog 26 #[.int .u8 m, .int .i64 v] w fun e w' => e = .returned (.agg #[.int .i64 0, .int .u8 m, .int .u8 1, .int .i64 v]) ∧ Below w.heap.size w w' := by
  have hX := blk_new w #[.int .i64 0, .int .u8 m, .int .u8 1, .int .i64 v] 31
  have hb := below_box (w := w) (Obj.cells #[.int .i64 0, .int .u8 m, .int .u8 1, .int .i64 v] 31)
  have d0 := hX.cell 0
  have d1 := hX.cell 1
  have d2 := hX.cell 2
  have d3 := hX.cell 3
  simp only [List.getElem?_toArray, List.getElem?_cons_zero, List.getElem?_cons_succ] at d0 d1 d2 d3
  go_enter Try.func26, Try.ntmps26
  go_wp2_with fail
  generalize w.alloc (Obj.cells #[.int .i64 0, .int .u8 m, .int .u8 1, .int .i64 v] 31) = w3 at hb d0 d1 d2 d3 ⊢
  exact bodyPost_ret (v := .agg #[.int .i64 0, .int .u8 m, .int .u8 1, .int .i64 v]) (by simp [results, Try.results26, go_sem, d0, d1, d2, d3]) rfl ⟨rfl, hb⟩
end Go.Proofs.Ythabkpkgocafoaa

/- The contracts of usufructref05.Free, May, Two. -/
namespace Go.Proofs.Ythabkpkgocafoaa
set_option linter.unusedVariables false
set_option linter.unusedSimpArgs false
open Go.RowKit

/-! ### plain -/
theorem take_snoc {α : Type} {l : List α} {k : Nat} {d : α} (h : k < l.length) : l.take (k + 1) = l.take k ++ [l.getD k d] := by
  rw [List.take_succ_eq_append_getElem h, List.getD_eq_getElem?_getD, List.getElem?_eq_getElem h]
  rfl
theorem map_getD {α : Type} {kn : List Nat} {f : Nat → α} {k : Nat} {d : α} (h : k < kn.length) : (kn.map f).getD k d = f (kn.getD k 0) := by
  rw [List.getD_eq_getElem?_getD, List.getElem?_map, List.getElem?_eq_getElem h, List.getD_eq_getElem?_getD, List.getElem?_eq_getElem h]
  rfl
def natK (kn : List Nat) : List Int := kn.map fun v => ((v : Nat) : Int)
theorem natK_len (kn : List Nat) : (natK kn).length = kn.length := by simp [natK]
theorem natK_at {kn : List Nat} {k : Nat} (h : k < (natK kn).length) : (natK kn)[k] = ((kn.getD k 0 : Nat) : Int) := by
  have h2 : k < kn.length := by rw [← natK_len kn]; exact h
  simp [natK, h2]
theorem natK_nat {keep : List Int} (h : ∀ v ∈ keep, 0 ≤ v) : natK (keep.map Int.toNat) = keep := by
  unfold natK
  rw [List.map_map]
  refine (List.map_congr_left fun v hv => ?_).trans (List.map_id keep)
  simp only [Function.comp, id]
  exact Int.toNat_of_nonneg (h v hv)
theorem free_len (kn : List Nat) (a : List Int) : (freeE kn a).length = kn.length := by simp [freeE]
theorem free_take {kn : List Nat} {a : List Int} {k : Nat} (h : k < kn.length) : (freeE kn a).take (k + 1) = (freeE kn a).take k ++ [⟨((kn.getD k 0 : Nat) : Int), 0, a.getD k 0, -1⟩] := by
  rw [List.take_succ_eq_append_getElem (by rw [free_len]; exact h)]
  simp [freeE]
theorem may_free {v N : Nat} {m : Int} (hv : v < N) (hN : N ≤ 1000) (h1 : 1 ≤ m) (h3 : m ≤ 3) : mayL ⟨(v : Int), 0, m, -1⟩ (N : Int) = true := by
  have e1 : isB 0 (v : Int) = true := by unfold isB; simp; omega
  unfold mayL mayX mayQ
  simp only [e1, Bool.and_eq_true, Bool.or_eq_true, decide_eq_true_eq, bne_iff_ne, ne_eq]
  exact ⟨⟨⟨⟨⟨⟨trivial, h1⟩, h3⟩, by omega⟩, by omega⟩, .inr (by omega)⟩, by omega⟩
def fillE (N k : Nat) : List Int := List.replicate k 1 ++ List.replicate (N - k) 0
theorem fill_len {N k : Nat} (h : k ≤ N) : (fillE N k).length = N := by simp [fillE]; omega
theorem fill_set {N k : Nat} (h : k < N) : (fillE N k).set k 1 = fillE N (k + 1) := by
  unfold fillE
  rw [List.set_append_right _ _ (by simp)]
  rw [List.length_replicate, Nat.sub_self]
  obtain ⟨m, hm⟩ : ∃ m, N - k = m + 1 := ⟨N - k - 1, by omega⟩
  rw [hm, List.replicate_succ, List.set_cons_zero, show N - (k + 1) = m by omega, List.replicate_succ', List.append_assoc]
  rfl
theorem fill_all (N : Nat) : fillE N N = List.replicate N 1 := by simp [fillE]
theorem blk_set {w : World} {g : Nat} {t : TypeId} {k : IntKind} {us : List Int} (h : Blk w g t (us.map (Value.int k)).toArray) (i : Nat) (u : Int) : Blk (w.setCell ⟨g, i, none⟩ (.int k u)) g t ((us.set i u).map (Value.int k)).toArray := by
  have := h.set_ i (.int k u)
  rwa [List.setIfInBounds_toArray, ← List.map_set] at this
theorem setE_rng {N : Nat} {kn : List Nat} {a : List Int} (ha : ∀ i, i < a.length → 1 ≤ a.getD i 0 ∧ a.getD i 0 ≤ 3) : ∀ k, k ≤ a.length → ∀ z ∈ setE (List.replicate N 1) kn a k, 1 ≤ z ∧ z ≤ 3
  | 0, _, z, hz => by rw [setE] at hz; rw [List.eq_of_mem_replicate hz]; omega
  | k + 1, hk, z, hz => by
    rw [setE] at hz
    rcases List.mem_or_eq_of_mem_set hz with h | h
    · exact setE_rng ha k (by omega) z h
    · rw [h]; exact ha k (by omega)

/-! ### walks -/
set_option maxHeartbeats 1000000 in
theorem free_any (Al : Option Addr) (nl cl : Nat) (xs : List IneqD) (Ak : Option Addr) (nk ck : Nat) (kn : List Nat) (Aa : Option Addr) (na ca : Nat) (a : List Int) (w : World) (hx : IneqsV w w.heap.size Al nl cl xs) (hk : RdI .i64 w w.heap.size Ak nk ck (natK kn)) (ha : RdI .u8 w w.heap.size Aa na ca a) (hna : na = nk) (hl : nl ≤ 1000) (hkb : nk ≤ 1000) :
    Calls Try.prog 85 #[.slice Al nl cl, .slice Ak nk ck, .slice Aa na ca] w fun e w' => ∃ A c, e = .returned (.slice A (nl + nk) c) ∧ IneqsV w' w'.heap.size A (nl + nk) c (xs ++ freeE kn a) ∧ Below w.heap.size w w' := by
  obtain ⟨i0, hi0, hz0, hz1, hz2⟩ := info_parts ineqInfo
  subst hna
  have hxl := hx.len
  have hkl := hk.len
  have hal := ha.len
  have hkn : kn.length = na := by rw [← natK_len]; exact hkl
  have hr1 := hx.rd4.keep (w' := w.alloc (Obj.cells #[] 31)) (fun p hp => World.cell?_alloc_lt _ _ p hp)
  have Hx := Lib.hid hx
  have Hk := Lib.hid hk
  have Ha := Lib.hid ha
  clear hx hk ha
  go_enter Try.func85, Try.ntmps85
  go_wp2_with (at_builtin; refine wpList_append_rd _ rfl _ _ 35 rfl w.heap.size 31 i0 _ 4 32 Try.underlying35 hi0 hz0 hz1 hz2 rfl (by omega) _ 0 [] rfl (World.ownsRow_lit w #[] 0 (Nat.le_refl _) (Nat.zero_le _) rfl) w.heap.size Al nl cl (cellsQ xs) rfl hr1 (cellsQ_one xs) (by unfold maxLen; omega) (by omega) (by simp) ?_; intro v1 w1 hown1 hg1 hat1; obtain ⟨A1, c1, rfl⟩ := ownsRow_form hown1)
  rw [Nat.zero_add, List.nil_append] at hown1
  have hb1 : Below w.heap.size w w1 := ((Below.refl _ _).alloc (Nat.le_refl _) _).grown hg1 (by simp) (fun k hk => by have hk' : some w.heap.size = some k := hk; injection hk' with h; omega)
  have Hown1 := Lib.hid hown1
  have Hb1 := Lib.hid hb1
  clear hown1 hb1 hg1 hat1 hr1
  go_loopg [7, 8] na (fun gh s i wr => ∃ (k : Nat) (A : Option Addr) (c : Nat), k ≤ na ∧ gh = na - k ∧ i = .int .i64 (k : Nat) ∧ s = .slice A (nl + k) c ∧ wr.ownsRow w.heap.size 31 4 (.slice A (nl + k) c) (nl + k) (cellsQ (xs ++ (freeE kn a).take k)) ∧ Below w.heap.size w wr)
  case atStart => exact ⟨0, A1, c1, Nat.zero_le _, rfl, rfl, rfl, by simpa using Hown1.out, Hb1.out⟩
  case round =>
    obtain ⟨k, A, c, hk, rfl, rfl, rfl, hown, hbel⟩ := hrel
    have Hown := Lib.hid hown
    have Hbel := Lib.hid hbel
    clear hown hbel
    by_cases hkn' : k < na
    · have d0 : decide (k < na) = true := by simpa using hkn'
      have hk' : k < (natK kn).length := by omega
      obtain ⟨b, off, rfl, hbl, hc⟩ := Hk.out.at_ (by omega)
      have q0 := hc k hk'
      rw [natK_at hk'] at q0
      have ha' : k < a.length := by omega
      obtain ⟨b2, off2, rfl, hbl2, hc2⟩ := Ha.out.at_ (by omega)
      have q1 := hc2 k ha'
      rw [← getD_at ha'] at q1
      have Htk := Lib.hid (free_take (kn := kn) (a := a) (k := k) (by omega))
      obtain ⟨v, hv⟩ : ∃ v : Int, ((kn.getD k 0 : Nat) : Int) = v := ⟨_, rfl⟩
      obtain ⟨m, hm⟩ : ∃ m : Int, a.getD k 0 = m := ⟨_, rfl⟩
      have Hv := Lib.hid hv
      have Hm := Lib.hid hm
      rw [hv] at q0
      rw [hm] at q1
      have i1 : (0 : Int) ≤ (k : Int) := by omega
      have i2 : (k : Int) < na := by omega
      have E0 := Lib.hid q0
      have E1 := Lib.hid q1
      have e0 : wr.cell? ⟨b, off + k, none⟩ = some (.int .i64 v) := (Hbel.out.cell (p := ⟨b, off + k, none⟩) hbl).trans q0
      have e1 : wr.cell? ⟨b2, off2 + k, none⟩ = some (.int .u8 m) := (Hbel.out.cell (p := ⟨b2, off2 + k, none⟩) hbl2).trans q1
      clear hc hc2 hv hm q0 q1
      have hsz := Hbel.out.size
      go_upto_region 5 with fail
      refine wp_region_noPanic ?_
      refine wp_region_T (fun w' => w'.cell? ⟨b, off + k, none⟩ = some (.int .i64 v) ∧ w'.cell? ⟨b2, off2 + k, none⟩ = some (.int .u8 m)) 13 (by kernel_rfl) ⟨e0, e1⟩ (fun hHeld => ?_)
      have howD : wr.drew.ownsRow w.heap.size 31 4 (.slice A (nl + k) c) (nl + k) (cellsQ (xs ++ (freeE kn a).take k)) := Hown.out
      have hbelD := Below.drew Hbel.out
      have hblD : b < wr.drew.heap.size := Nat.lt_of_lt_of_le hbl hsz
      have hbl2D : b2 < wr.drew.heap.size := Nat.lt_of_lt_of_le hbl2 hsz
      generalize wr.drew = W0 at hHeld howD hbelD hblD hbl2D ⊢
      have hH2 := hHeld
      refine wpAnyT_take (i := 0) (v := ?_) rfl (by kernel_rfl) (by kernel_rfl) (by kernel_rfl) (by kernel_rfl) (fun _ _ _ h => h) (Or.inl ⟨by rfl, ?_⟩) (by assumption) ?_
      rotate_left
      · (intro w hSw; (try dsimp only at hSw); first | (go_simp; done) | (go_simp; with_reducible rfl))
      try simp only [Act.put, List.getElem_toArray, List.getElem_cons_zero, List.getElem_cons_succ, List.setIfInBounds_toArray, List.set_cons_zero, List.set_cons_succ]
      refine wpAnyT_take (i := 1) (v := ?_) rfl (by kernel_rfl) (by kernel_rfl) (by kernel_rfl) (by kernel_rfl) (fun _ _ _ h => h) (Or.inl ⟨by rfl, ?_⟩) (by assumption) ?_
      rotate_left
      · (intro w hSw; (try dsimp only at hSw); first | (go_simp; done) | (go_simp; with_reducible rfl))
      try simp only [Act.put, List.getElem_toArray, List.getElem_cons_zero, List.getElem_cons_succ, List.setIfInBounds_toArray, List.set_cons_zero, List.set_cons_succ]
      refine wpAnyT_take (i := 2) (v := ?_) rfl (by kernel_rfl) (by kernel_rfl) (by kernel_rfl) (by kernel_rfl) (fun _ _ _ h => h) (Or.inl ⟨by rfl, ?_⟩) (by assumption) ?_
      rotate_left
      · (intro w hSw; (try dsimp only at hSw); first | (go_simp; done) | (go_simp; with_reducible rfl))
      try simp only [Act.put, List.getElem_toArray, List.getElem_cons_zero, List.getElem_cons_succ, List.setIfInBounds_toArray, List.set_cons_zero, List.set_cons_succ]
      refine wpAnyT_take (i := 3) (v := ?_) rfl (by kernel_rfl) (by kernel_rfl) (by kernel_rfl) (by kernel_rfl) (fun _ _ _ h => h) (Or.inl ⟨by rfl, ?_⟩) (by assumption) ?_
      rotate_left
      · (intro w hSw; (try dsimp only at hSw); first | (go_simp; done) | (go_simp; with_reducible rfl))
      try simp only [Act.put, List.getElem_toArray, List.getElem_cons_zero, List.getElem_cons_succ, List.setIfInBounds_toArray, List.set_cons_zero, List.set_cons_succ]
      refine wpAnyT_take (i := 4) (v := ?_) rfl (by kernel_rfl) (by kernel_rfl) (by kernel_rfl) (by kernel_rfl) (fun _ _ _ h => h) (Or.inl ⟨by rfl, ?_⟩) (by assumption) ?_
      rotate_left
      · (intro w hSw; (try dsimp only at hSw); first | (go_simp; done) | (go_simp; with_reducible rfl))
      try simp only [Act.put, List.getElem_toArray, List.getElem_cons_zero, List.getElem_cons_succ, List.setIfInBounds_toArray, List.set_cons_zero, List.set_cons_succ]
      refine wpAnyT_take (i := 5) (v := ?_) rfl (by kernel_rfl) (by kernel_rfl) (by kernel_rfl) (by kernel_rfl) (fun _ _ _ h => h) (Or.inl ⟨by rfl, ?_⟩) (by assumption) ?_
      rotate_left
      · (intro w hSw; (try dsimp only at hSw); first | (go_simp; done) | (go_simp; with_reducible rfl))
      try simp only [Act.put, List.getElem_toArray, List.getElem_cons_zero, List.getElem_cons_succ, List.setIfInBounds_toArray, List.set_cons_zero, List.set_cons_succ]
      refine wpAnyT_take (i := 6) (v := ?_) rfl (by kernel_rfl) (by kernel_rfl) (by kernel_rfl) (by kernel_rfl) (fun _ _ _ h => h) (Or.inl ⟨by rfl, ?_⟩) (by assumption) ?_
      rotate_left
      · (intro w hSw; (try dsimp only at hSw); first | (go_simp; done) | (go_simp; with_reducible rfl))
      try simp only [Act.put, List.getElem_toArray, List.getElem_cons_zero, List.getElem_cons_succ, List.setIfInBounds_toArray, List.set_cons_zero, List.set_cons_succ]
      refine wpAnyT_take (i := 7) (v := ?_) rfl (by kernel_rfl) (by kernel_rfl) (by kernel_rfl) (by kernel_rfl) (fun _ _ _ h => h) (Or.inl ⟨by rfl, ?_⟩) (by assumption) ?_
      rotate_left
      · (intro w hSw; (try dsimp only at hSw); first | (go_simp; done) | (go_simp; with_reducible rfl))
      try simp only [Act.put, List.getElem_toArray, List.getElem_cons_zero, List.getElem_cons_succ, List.setIfInBounds_toArray, List.set_cons_zero, List.set_cons_succ]
      refine wpAnyT_take (i := 8) (v := ?_) rfl (by kernel_rfl) (by kernel_rfl) (by kernel_rfl) (by kernel_rfl) (fun _ _ _ h => h) (Or.inl ⟨by rfl, ?_⟩) (by assumption) ?_
      rotate_left
      · (intro w hSw; (try dsimp only at hSw); first | (go_simp; done) | (go_simp; with_reducible rfl))
      try simp only [Act.put, List.getElem_toArray, List.getElem_cons_zero, List.getElem_cons_succ, List.setIfInBounds_toArray, List.set_cons_zero, List.set_cons_succ]
      refine wpAnyT_take (i := 9) (v := ?_) rfl (by kernel_rfl) (by kernel_rfl) (by kernel_rfl) (by kernel_rfl) (fun _ _ _ h => h) (Or.inl ⟨by rfl, ?_⟩) (by assumption) ?_
      rotate_left
      · (intro w hSw; (try dsimp only at hSw); first | (go_simp; done) | (go_simp; with_reducible rfl))
      try simp only [Act.put, List.getElem_toArray, List.getElem_cons_zero, List.getElem_cons_succ, List.setIfInBounds_toArray, List.set_cons_zero, List.set_cons_succ]
      refine wpAnyT_take (i := 10) (v := ?_) rfl (by kernel_rfl) (by kernel_rfl) (by kernel_rfl) (by kernel_rfl) (fun _ _ _ h => h) (Or.inl ⟨by rfl, ?_⟩) (by assumption) ?_
      rotate_left
      · (intro w hSw; (try dsimp only at hSw); first | (go_simp; done) | (go_simp; with_reducible rfl))
      try simp only [Act.put, List.getElem_toArray, List.getElem_cons_zero, List.getElem_cons_succ, List.setIfInBounds_toArray, List.set_cons_zero, List.set_cons_succ]
      have hb9 := hbelD.alloc hbelD.size (Obj.cells #[.int .i64 v, .int .u8 0, .int .u8 m, .int .i64 (-1)] 31)
      have ho9 := howD.alloc (Obj.cells #[.int .i64 v, .int .u8 0, .int .u8 m, .int .i64 (-1)] 31)
      have Hb9 := Lib.hid hb9
      have Ho9 := Lib.hid ho9
      clear hb9 ho9
      have hS9 : (W0.alloc (Obj.cells #[.int .i64 v, .int .u8 0, .int .u8 m, .int .i64 (-1)] 31)).cell? ⟨b, off + k, none⟩ = some (.int .i64 v) ∧ (W0.alloc (Obj.cells #[.int .i64 v, .int .u8 0, .int .u8 m, .int .i64 (-1)] 31)).cell? ⟨b2, off2 + k, none⟩ = some (.int .u8 m) := ⟨(World.cell?_alloc_lt _ _ ⟨b, off + k, none⟩ hblD).trans hH2.1, (World.cell?_alloc_lt _ _ ⟨b2, off2 + k, none⟩ hbl2D).trans hH2.2⟩
      refine wpAnyT_step (i := 11) (by kernel_rfl) rfl (fun K hK => ?_)
      go_simp
      refine hK.out _ _ hS9 ?_
      clear hK K
      try simp only [Act.put, List.getElem_toArray, List.getElem_cons_zero, List.getElem_cons_succ, List.setIfInBounds_toArray, List.set_cons_zero, List.set_cons_succ]
      clear hS9 hHeld hH2
      refine wpAnyT_step (i := 12) (by kernel_rfl) rfl (fun K hK => ?_)
      (refine step_append_rd _ (by rfl) (.tmp 18) (.tmp 29) 35 (by rfl) w.heap.size 31 i0 _ 4 32 Try.underlying35 hi0 hz0 hz1 hz2 rfl (by omega) (.slice A (nl + k) c) (nl + k) (cellsQ (xs ++ (freeE kn a).take k)) (by rfl) Ho9.out (W0.heap.size + 1) (some ⟨W0.heap.size, 0, none⟩) 1 1 (cellsQ [⟨v, 0, m, -1⟩]) (by rfl) (rd_newq _ ⟨v, 0, m, -1⟩ _) (cellsQ_one _) (by unfold maxLen; omega) (by omega) Hb9.out.size ?_; intro v7 w7 ho7 hg7 hat7; obtain ⟨A7, c7, rfl⟩ := ownsRow_form ho7; have hb7 := Hb9.out.grown hg7 Hb9.out.size (fun b' hb' => (ownsRow_lt Ho9.out hb').1); have hS7 : w7.cell? ⟨b, off + k, none⟩ = some (.int .i64 v) ∧ w7.cell? ⟨b2, off2 + k, none⟩ = some (.int .u8 m) := ⟨(hb7.cell (p := ⟨b, off + k, none⟩) hbl).trans E0.out, (hb7.cell (p := ⟨b2, off2 + k, none⟩) hbl2).trans E1.out⟩)
      refine hK.out _ _ hS7 ?_
      clear hK K
      try simp only [Act.put, List.getElem_toArray, List.getElem_cons_zero, List.getElem_cons_succ, List.setIfInBounds_toArray, List.set_cons_zero, List.set_cons_succ]
      clear hS7 hat7 hg7
      have Ho7 := Lib.hid ho7
      have Hb7 := Lib.hid hb7
      clear ho7 hb7
      refine wpAnyT_seq 13 (by omega) (by rfl) (by kernel_rfl) ?_
      simp only [List.drop_succ_cons, List.drop_zero]
      go_wp2_with fail
      refine NoPanic.normal ?_
      go_wp2_with fail
      go_roundg (na - (k + 1))
      case measure => omega
      case rel => exact ⟨k + 1, A7, c7, by omega, rfl, by simp, rfl, by rw [Htk.out, Hv.out, Hm.out, ← List.append_assoc, cellsQ_append]; exact Ho7.out, Hb7.out⟩
    · have d0 : decide (k < na) = false := by simpa using hkn'
      obtain ⟨nk9, rfl⟩ : ∃ nk9, nk9 = k := ⟨_, rfl⟩
      have hkn9 : na = nk9 := by omega
      subst hkn9
      have hend : IneqsV wr wr.heap.size A (nl + na) c (xs ++ freeE kn a) := by
        have := IneqsV.of_own4 (by simpa using Hown.out)
        rwa [List.take_of_length_le (by rw [free_len]; omega)] at this
      have Hend := Lib.hid hend
      clear hend
      go_wp2_with fail
      go_ret
      exact ⟨A, c, rfl, Hend.out, Hbel.out⟩
set_option maxRecDepth 100000 in
set_option maxHeartbeats 1000000 in
theorem refMay5_any (r : Bool) (N : Nat) (Al : Option Addr) (nl cl : Nat) (xs : List IneqD) (Ak : Option Addr) (nk ck : Nat) (kn : List Nat) (Aa : Option Addr) (na ca : Nat) (a : List Int) (w : World) (hx : IneqsV w w.heap.size Al nl cl xs) (hk : RdI .i64 w w.heap.size Ak nk ck (natK kn)) (ha : RdI .u8 w w.heap.size Aa na ca a) (hna : na = nk) (hl : nl ≤ 1000) (hkb : nk ≤ 1000) (hN : N ≤ 1000) (hok : OkS (N : Int) [] xs) (hlt : ∀ v ∈ kn, v < N) (hd : kn.Nodup) (har : ∀ i, i < a.length → 1 ≤ a.getD i 0 ∧ a.getD i 0 ≤ 3) (hr : r = true ↔ ∃ f, SolE N xs f ∧ ∀ i, i < kn.length → f.getD (kn.getD i 0) 0 = a.getD i 0) :
    Calls Try.prog 72 #[.int .i64 N, .slice Al nl cl, .slice Ak nk ck, .slice Aa na ca] w fun e w' => e = .returned (.bool r) ∧ Below w.heap.size w w' := by
  subst hna
  have hkl := hk.len
  have hal := ha.len
  have hkn : kn.length = na := by rw [← natK_len]; exact hkl
  have hmk := make_mult N (by omega)
  have n63 : N ≤ 9223372036854775807 := by omega
  have hF0 : Blk (w.alloc (Obj.cells (Array.replicate N (Value.int .u8 0)) 27)) w.heap.size 27 ((fillE N 0).map (Value.int .u8)).toArray := by
    rw [show ((fillE N 0).map (Value.int .u8)).toArray = Array.replicate N (Value.int .u8 0) by simp [fillE]]; exact blk_new _ _ _
  have hbF := below_box (w := w) (Obj.cells (Array.replicate N (Value.int .u8 0)) 27)
  have Hx := Lib.hid hx
  have Hk := Lib.hid hk
  have Ha := Lib.hid ha
  have Hok := Lib.hid hok
  have Hlt := Lib.hid hlt
  have Hd := Lib.hid hd
  have Har := Lib.hid har
  have Hr := Lib.hid hr
  have HF0 := Lib.hid hF0
  have HbF := Lib.hid hbF
  clear hx hk ha hok hlt hd har hr hF0 hbF
  go_enter Try.func72, Try.ntmps72
  go_wp2_with fail
  go_loopg [10] N (fun gh i wr => ∃ k : Nat, k ≤ N ∧ gh = N - k ∧ i = .int .i64 (k : Nat) ∧ Blk wr w.heap.size 27 ((fillE N k).map (Value.int .u8)).toArray ∧ Below w.heap.size w wr)
  case atStart => exact ⟨0, Nat.zero_le _, rfl, rfl, HF0.out, HbF.out⟩
  case round =>
    obtain ⟨k, hk, rfl, rfl, hbl, hbel⟩ := hrel
    by_cases hkN : k < N
    · have d0 : decide (k < N) = true := by simpa using hkN
      have i1 : (0 : Int) ≤ (k : Int) := by omega
      have i2 : (k : Int) < N := by omega
      have hc : wr.cell? ⟨w.heap.size, k, none⟩ = some (.int .u8 ((fillE N k)[k]'(by rw [fill_len hk]; exact hkN))) := by
        rw [hbl.cell k]; simp
      generalize ((fillE N k)[k]'(by rw [fill_len hk]; exact hkN)) = z at hc
      have hfz := hbl.frozen k
      have hb2 := blk_set hbl k 1
      rw [fill_set hkN] at hb2
      have hbel2 := hbel.setCell (p := ⟨w.heap.size, k, none⟩) (Nat.le_refl _) (.int .u8 1)
      have Hb2 := Lib.hid hb2
      have Hbel2 := Lib.hid hbel2
      clear hb2 hbel2 hbl hbel
      go_wp2_with fail
      go_roundg (N - (k + 1))
      case measure => omega
      case rel => exact ⟨k + 1, by omega, rfl, by simp, Hb2.out, Hbel2.out⟩
    · have d0 : decide (k < N) = false := by simpa using hkN
      obtain ⟨N9, rfl⟩ : ∃ N9, N9 = k := ⟨_, rfl⟩
      have hN9 : N = N9 := by omega
      subst hN9
      rw [fill_all] at hbl
      have Hbl := Lib.hid hbl
      have Hbel := Lib.hid hbel
      obtain ⟨wO, hwO⟩ : ∃ x, x = wr := ⟨_, rfl⟩
      subst hwO
      clear hbl hbel HF0 HbF
      go_wp2_with fail
      go_loopg [11] na (fun gh i wr => ∃ k : Nat, k ≤ na ∧ gh = na - k ∧ i = .int .i64 (k : Nat) ∧ Blk wr w.heap.size 27 ((setE (List.replicate N 1) kn a k).map (Value.int .u8)).toArray ∧ Below w.heap.size w wr)
      case atStart => exact ⟨0, Nat.zero_le _, rfl, rfl, Hbl.out, Hbel.out⟩
      case round =>
        obtain ⟨k, hk, rfl, rfl, hbl, hbel⟩ := hrel
        have hsl : (setE (List.replicate N 1) kn a k).length = N := by rw [setE_len]; simp
        by_cases hkn' : k < na
        · have d0 : decide (k < na) = true := by simpa using hkn'
          have hk' : k < (natK kn).length := by omega
          obtain ⟨b, off, rfl, hb1, hc⟩ := (Hk.out.below hbel).at_ (by omega)
          have e0 := hc k hk'
          rw [natK_at hk'] at e0
          have ha' : k < a.length := by omega
          obtain ⟨b2, off2, rfl, hb2, hc2⟩ := (Ha.out.below hbel).at_ (by omega)
          have e1 := hc2 k ha'
          rw [← getD_at ha'] at e1
          have hv := keep_lt Hlt.out (i := k) (by omega)
          obtain ⟨v, hve⟩ : ∃ v, kn.getD k 0 = v := ⟨_, rfl⟩
          obtain ⟨m, hme⟩ : ∃ m, a.getD k 0 = m := ⟨_, rfl⟩
          rw [hve] at e0 hv
          rw [hme] at e1
          have i1 : (0 : Int) ≤ (k : Int) := by omega
          have i2 : (k : Int) < na := by omega
          have i3 : (0 : Int) ≤ (v : Int) := by omega
          have i4 : (v : Int) < N := by omega
          have hset : (setE (List.replicate N 1) kn a k).set v m = setE (List.replicate N 1) kn a (k + 1) := by rw [← hve, ← hme]; rfl
          have Hset := Lib.hid hset
          clear hc hc2 hset hve hme
          go_upto_region 9 with fail
          refine wp_region_noPanic ?_
          refine wp_region_T (fun w' => w'.cell? ⟨b, off + k, none⟩ = some (.int .i64 (v : Nat)) ∧ w'.cell? ⟨b2, off2 + k, none⟩ = some (.int .u8 m)) 10 (by kernel_rfl) ⟨e0, e1⟩ (fun hHeld => ?_)
          have hblD : Blk wr.drew w.heap.size 27 ((setE (List.replicate N 1) kn a k).map (Value.int .u8)).toArray := hbl
          have hbelD := Below.drew hbel
          clear hbl hbel e0 e1
          generalize wr.drew = W0 at hHeld hblD hbelD ⊢
          refine wpAnyT_take (i := 0) (v := ?_) rfl (by kernel_rfl) (by kernel_rfl) (by kernel_rfl) (by kernel_rfl) (fun _ _ _ h => h) (Or.inl ⟨by rfl, ?_⟩) (by assumption) ?_
          rotate_left
          · (intro w hSw; (try dsimp only at hSw); first | (go_simp; done) | (go_simp; with_reducible rfl))
          try simp only [Act.put, List.getElem_toArray, List.getElem_cons_zero, List.getElem_cons_succ, List.setIfInBounds_toArray, List.set_cons_zero, List.set_cons_succ]
          refine wpAnyT_take (i := 1) (v := ?_) rfl (by kernel_rfl) (by kernel_rfl) (by kernel_rfl) (by kernel_rfl) (fun _ _ _ h => h) (Or.inl ⟨by rfl, ?_⟩) (by assumption) ?_
          rotate_left
          · (intro w hSw; (try dsimp only at hSw); first | (go_simp; done) | (go_simp; with_reducible rfl))
          try simp only [Act.put, List.getElem_toArray, List.getElem_cons_zero, List.getElem_cons_succ, List.setIfInBounds_toArray, List.set_cons_zero, List.set_cons_succ]
          refine wpAnyT_take (i := 2) (v := ?_) rfl (by kernel_rfl) (by kernel_rfl) (by kernel_rfl) (by kernel_rfl) (fun _ _ _ h => h) (Or.inl ⟨by rfl, ?_⟩) (by assumption) ?_
          rotate_left
          · (intro w hSw; (try dsimp only at hSw); first | (go_simp; done) | (go_simp; with_reducible rfl))
          try simp only [Act.put, List.getElem_toArray, List.getElem_cons_zero, List.getElem_cons_succ, List.setIfInBounds_toArray, List.set_cons_zero, List.set_cons_succ]
          refine wpAnyT_take (i := 3) (v := ?_) rfl (by kernel_rfl) (by kernel_rfl) (by kernel_rfl) (by kernel_rfl) (fun _ _ _ h => h) (Or.inl ⟨by rfl, ?_⟩) (by assumption) ?_
          rotate_left
          · (intro w hSw; (try dsimp only at hSw); first | (go_simp; done) | (go_simp; with_reducible rfl))
          try simp only [Act.put, List.getElem_toArray, List.getElem_cons_zero, List.getElem_cons_succ, List.setIfInBounds_toArray, List.set_cons_zero, List.set_cons_succ]
          refine wpAnyT_take (i := 4) (v := ?_) rfl (by kernel_rfl) (by kernel_rfl) (by kernel_rfl) (by kernel_rfl) (fun _ _ _ h => h) (Or.inl ⟨by rfl, ?_⟩) (by assumption) ?_
          rotate_left
          · (intro w hSw; (try dsimp only at hSw); first | (go_simp; done) | (go_simp; with_reducible rfl))
          try simp only [Act.put, List.getElem_toArray, List.getElem_cons_zero, List.getElem_cons_succ, List.setIfInBounds_toArray, List.set_cons_zero, List.set_cons_succ]
          refine wpAnyT_take (i := 5) (v := ?_) rfl (by kernel_rfl) (by kernel_rfl) (by kernel_rfl) (by kernel_rfl) (fun _ _ _ h => h) (Or.inl ⟨by rfl, ?_⟩) (by assumption) ?_
          rotate_left
          · (intro w hSw; (try dsimp only at hSw); first | (go_simp; done) | (go_simp; with_reducible rfl))
          try simp only [Act.put, List.getElem_toArray, List.getElem_cons_zero, List.getElem_cons_succ, List.setIfInBounds_toArray, List.set_cons_zero, List.set_cons_succ]
          refine wpAnyT_take (i := 6) (v := ?_) rfl (by kernel_rfl) (by kernel_rfl) (by kernel_rfl) (by kernel_rfl) (fun _ _ _ h => h) (Or.inl ⟨by rfl, ?_⟩) (by assumption) ?_
          rotate_left
          · (intro w hSw; (try dsimp only at hSw); first | (go_simp; done) | (go_simp; with_reducible rfl))
          try simp only [Act.put, List.getElem_toArray, List.getElem_cons_zero, List.getElem_cons_succ, List.setIfInBounds_toArray, List.set_cons_zero, List.set_cons_succ]
          refine wpAnyT_take (i := 7) (v := ?_) rfl (by kernel_rfl) (by kernel_rfl) (by kernel_rfl) (by kernel_rfl) (fun _ _ _ h => h) (Or.inl ⟨by rfl, ?_⟩) (by assumption) ?_
          rotate_left
          · (intro w hSw; (try dsimp only at hSw); first | (go_simp; done) | (go_simp; with_reducible rfl))
          try simp only [Act.put, List.getElem_toArray, List.getElem_cons_zero, List.getElem_cons_succ, List.setIfInBounds_toArray, List.set_cons_zero, List.set_cons_succ]
          refine wpAnyT_take (i := 8) (v := ?_) rfl (by kernel_rfl) (by kernel_rfl) (by kernel_rfl) (by kernel_rfl) (fun _ _ _ h => h) (Or.inl ⟨by rfl, ?_⟩) (by assumption) ?_
          rotate_left
          · (intro w hSw; (try dsimp only at hSw); first | (go_simp; done) | (go_simp; with_reducible rfl))
          try simp only [Act.put, List.getElem_toArray, List.getElem_cons_zero, List.getElem_cons_succ, List.setIfInBounds_toArray, List.set_cons_zero, List.set_cons_succ]
          refine wpAnyT_take (i := 9) (v := ?_) rfl (by kernel_rfl) (by kernel_rfl) (by kernel_rfl) (by kernel_rfl) (fun _ _ _ h => h) (Or.inl ⟨by rfl, ?_⟩) (by assumption) ?_
          rotate_left
          · (intro w hSw; (try dsimp only at hSw); first | (go_simp; done) | (go_simp; with_reducible rfl))
          try simp only [Act.put, List.getElem_toArray, List.getElem_cons_zero, List.getElem_cons_succ, List.setIfInBounds_toArray, List.set_cons_zero, List.set_cons_succ]
          clear hHeld
          have hst := blk_set hblD v m
          rw [Hset.out] at hst
          have k3 : W0.cell? ⟨w.heap.size, v, none⟩ = some (.int .u8 ((setE (List.replicate N 1) kn a k)[v]'(by rw [hsl]; exact hv))) := by
            rw [hblD.cell v]; simp
          generalize ((setE (List.replicate N 1) kn a k)[v]'(by rw [hsl]; exact hv)) = z at k3
          have k4 := hblD.frozen v
          have hst2 := hbelD.setCell (p := ⟨w.heap.size, v, none⟩) (Nat.le_refl _) (.int .u8 m)
          have Hst := Lib.hid hst
          have Hst2 := Lib.hid hst2
          clear hst hst2 hblD hbelD hv hsl
          refine wpAnyT_seq 10 (by omega) (by rfl) (by kernel_rfl) ?_
          simp only [List.drop_succ_cons, List.drop_zero]
          go_wp2_with fail
          refine NoPanic.normal ?_
          go_wp2_with fail
          go_roundg (na - (k + 1))
          case measure => omega
          case rel => exact ⟨k + 1, by omega, rfl, by simp, Hst.out, Hst2.out⟩
        · have d0 : decide (k < na) = false := by simpa using hkn'
          obtain ⟨k9, rfl⟩ : ∃ k9, k9 = k := ⟨_, rfl⟩
          have hk9 : na = k9 := by omega
          subst hk9
          have hlow := rdM_blk hbl hsl (by unfold maxLen; omega)
          have Hlow := Lib.hid hlow
          have Hbe2 := Lib.hid hbel
          have Hsl := Lib.hid hsl
          clear hlow hbl hbel hsl
          go_wp2_with fail
          refine (free_any Al nl cl xs Ak na ck kn Aa na ca a wr ((Hx.out.below Hbe2.out).more Hbe2.out.size) ((Hk.out.below Hbe2.out).more Hbe2.out.size) ((Ha.out.below Hbe2.out).more Hbe2.out.size) rfl hl hkb).mono ?_
          rintro e w3 ⟨A3, c3, rfl, hfr, hb3⟩
          have Hfr := Lib.hid hfr
          have Hlow3 := Lib.hid ((Hlow.out.below hb3).more hb3.size)
          have Hb3 := Lib.hid (Hbe2.out.trans (hb3.mono Hbe2.out.size))
          clear hfr hb3
          go_wp2_with fail
          have hok2 : OkS (N : Int) (setE (List.replicate N 1) kn a na) (xs ++ freeE kn a) := ⟨by omega, .inr (by rw [Hsl.out]), fun x hx => by
            rcases List.mem_append.1 hx with q | q
            · exact Hok.out.may x q
            · obtain ⟨i, hi, rfl⟩ := mem_free.1 q
              have := Har.out i (by omega)
              exact may_free (keep_lt Hlt.out hi) hN this.1 this.2, setE_rng Har.out na (by omega)⟩
          refine (refSolve_any N (by omega) _ _ _ _ _ _ _ _ w3 Hlow3.out Hfr.out hok2).mono ?_
          rintro e w4 ⟨A4, m4, c4, a4, ok4, rfl, hr4, hR4, hb4⟩
          rw [low0_self Hsl.out] at hR4
          have hiff := free_iff (a := a) (Hok.out.well) Hlt.out Hd.out fun i hi => Har.out i (by omega)
          rw [hkn] at hiff
          have hok4 : ok4 = r := by
            cases ok4 with
            | true =>
              refine (Hr.out.2 ?_).symm
              rw [hkn]
              exact hiff.1 ⟨_, (hR4.1 rfl).1⟩
            | false =>
              cases r with
              | false => rfl
              | true =>
                have h1 := Hr.out.1 rfl
                rw [hkn] at h1
                obtain ⟨g, hg⟩ := hiff.2 h1
                exact absurd hg ((hR4.2 rfl).2 g)
          subst hok4
          have Hend := Lib.hid (Hb3.out.trans (hb4.mono Hb3.out.size))
          clear hb4 hr4 hR4 hiff hok2
          go_wp2_with fail
          go_ret
          exact ⟨rfl, Hend.out⟩
end Go.Proofs.Ythabkpkgocafoaa

/- The reference's table as it is built: memory, and the numbers in its loops. -/
namespace Go.Proofs.Ythabkpkgocafoaa
set_option linter.unusedVariables false
set_option linter.unusedSimpArgs false
open Go.RowKit

theorem ownsRow_mono {w : World} {base base' : Nat} {e : TypeId} {size : Nat} {v : Value} {n : Nat} {xs : List Value} (h : w.ownsRow base e size v n xs) (hb : base' ≤ base) : w.ownsRow base' e size v n xs :=
  ⟨h.1, h.2.imp id fun ⟨g, cap, cur, h1, h2, h3⟩ => ⟨g, cap, cur, h1, Nat.le_trans hb h2, h3⟩⟩
/-! ### the table as it is built, rows by append -/
structure OwnU (w : World) (base m : Nat) (v1 v2 v3 : Value) (low up : List Int) (ps : List (List Int)) (vs : List Value) : Prop where
  o1 : w.ownsRow base 27 1 v1 low.length (low.map (Value.int .u8))
  o2 : w.ownsRow base 27 1 v2 up.length (up.map (Value.int .u8))
  o3 : w.ownsRow base 22 1 v3 (vs.take m).length (vs.take m)
  pl : ps.length = vs.length
  rows : ∀ i (h : i < vs.length) (h' : i < ps.length), ∃ A c, vs[i] = .slice A ps[i].length c ∧ w.ownsRow base 27 1 (.slice A ps[i].length c) ps[i].length (ps[i].map (Value.int .u8))
  s12 : ∀ b, v1.ownBlock = some b → v2.ownBlock ≠ some b
  s13 : ∀ b, v1.ownBlock = some b → v3.ownBlock ≠ some b
  s23 : ∀ b, v2.ownBlock = some b → v3.ownBlock ≠ some b
  g1 : ∀ b, v1.ownBlock = some b → ∀ v ∈ vs, v.ownBlock ≠ some b
  g2 : ∀ b, v2.ownBlock = some b → ∀ v ∈ vs, v.ownBlock ≠ some b
  g3 : ∀ b, v3.ownBlock = some b → ∀ v ∈ vs, v.ownBlock ≠ some b
section
variable {w w' : World} {base m : Nat} {v1 v2 v3 v' : Value} {low up : List Int} {ps : List (List Int)} {vs : List Value}
theorem OwnU.nil (w : World) (base : Nat) : OwnU w base 0 (.slice none 0 0) (.slice none 0 0) (.slice none 0 0) [] [] [] [] :=
  ⟨World.ownsRow_nil _ _ _ _, World.ownsRow_nil _ _ _ _, World.ownsRow_nil _ _ _ _, rfl, fun i h => absurd h (by simp), fun b e => absurd e (by simp [Value.ownBlock]), fun b e => absurd e (by simp [Value.ownBlock]), fun b e => absurd e (by simp [Value.ownBlock]), fun b e => absurd e (by simp [Value.ownBlock]), fun b e => absurd e (by simp [Value.ownBlock]), fun b e => absurd e (by simp [Value.ownBlock])⟩
theorem OwnU.fresh (h : OwnU w base m v1 v2 v3 low up ps vs) (hb : Below w.heap.size w w') : OwnU w' base m v1 v2 v3 low up ps vs :=
  ⟨ownsRow_beyond h.o1 hb, ownsRow_beyond h.o2 hb, ownsRow_beyond h.o3 hb, h.pl, fun i hi hi' => (h.rows i hi hi').imp fun A => Exists.imp fun c hc => ⟨hc.1, ownsRow_beyond hc.2 hb⟩, h.s12, h.s13, h.s23, h.g1, h.g2, h.g3⟩
theorem OwnU.setG (h : OwnU w base m v1 v2 v3 low up ps vs) {g : Nat} (hg : g < base) (i : Nat) (u : Value) : OwnU (w.setCell ⟨g, i, none⟩ u) base m v1 v2 v3 low up ps vs :=
  ⟨ownsRow_setCell_below h.o1 (a := ⟨g, i, none⟩) hg u, ownsRow_setCell_below h.o2 (a := ⟨g, i, none⟩) hg u, ownsRow_setCell_below h.o3 (a := ⟨g, i, none⟩) hg u, h.pl, fun j hj hj' => (h.rows j hj hj').imp fun A => Exists.imp fun c hc => ⟨hc.1, ownsRow_setCell_below hc.2 (a := ⟨g, i, none⟩) hg u⟩, h.s12, h.s13, h.s23, h.g1, h.g2, h.g3⟩
theorem OwnU.rowLt (h : OwnU w base m v1 v2 v3 low up ps vs) {v : Value} (hv : v ∈ vs) {b : Nat} (e : v.ownBlock = some b) : b < w.heap.size := by
  obtain ⟨i, hi, rfl⟩ := List.getElem_of_mem hv
  obtain ⟨A, c, e1, ho⟩ := h.rows i hi (by rw [h.pl]; exact hi)
  rw [e1] at e
  exact (ownsRow_lt ho e).2
/-- a row more, of its own -/
theorem OwnU.row {A : Option Addr} {n c : Nat} {row : List Int} (h : OwnU w base vs.length v1 v2 v3 low up ps vs) (hb : Below w.heap.size w w') (hB : base ≤ w.heap.size) (hk : w'.ownsRow w.heap.size 27 1 (.slice A n c) n (row.map (Value.int .u8))) (hr : row.length = n) : OwnU w' base vs.length v1 v2 v3 low up (ps ++ [row]) (vs ++ [.slice A n c]) := by
  subst hr
  have hf := h.fresh hb
  have own : ∀ {t : TypeId} {v : Value} {n' : Nat} {us : List Value}, w.ownsRow base t 1 v n' us → ∀ b, v.ownBlock = some b → (∀ u ∈ vs, u.ownBlock ≠ some b) → ∀ u ∈ vs ++ [.slice A row.length c], u.ownBlock ≠ some b := fun ho b e hn u hm e2 => by
    have h1 := (ownsRow_lt ho e).2
    rcases List.mem_append.1 hm with q | q
    · exact hn u q e2
    · rw [List.mem_singleton.1 q] at e2
      have := (ownsRow_lt hk e2).1
      omega
  refine ⟨hf.o1, hf.o2, ?_, by simp [h.pl], fun i hi hi' => ?_, h.s12, h.s13, h.s23, fun b e => own h.o1 b e (h.g1 b e), fun b e => own h.o2 b e (h.g2 b e), fun b e => own h.o3 b e (h.g3 b e)⟩
  · have := hf.o3
    rw [List.take_of_length_le (Nat.le_refl _)] at this
    rw [List.take_left' rfl]
    exact this
  · by_cases e : i < vs.length
    · have := hf.rows i e (by rw [h.pl]; exact e)
      rw [List.getElem_append_left e]
      rw [show (ps ++ [row])[i] = ps[i]'(by rw [h.pl]; exact e) from List.getElem_append_left _]
      exact this
    · have e2 : i = vs.length := by simp at hi; omega
      subst e2
      rw [List.getElem_append_right (by omega), List.getElem_append_right (by rw [h.pl]; omega)]
      simp only [h.pl, Nat.sub_self, List.getElem_cons_zero]
      exact ⟨A, c, rfl, ownsRow_mono hk hB⟩
theorem OwnU.rowsGrown (h : OwnU w base m v1 v2 v3 low up ps vs) {v : Value} (hg : w.grownBy w' v.ownBlock) (hs : ∀ b, v.ownBlock = some b → ∀ u ∈ vs, u.ownBlock ≠ some b) : ∀ i (h : i < vs.length) (h' : i < ps.length), ∃ A c, vs[i] = .slice A ps[i].length c ∧ w'.ownsRow base 27 1 (.slice A ps[i].length c) ps[i].length (ps[i].map (Value.int .u8)) := fun i hi hi' => by
  obtain ⟨A, c, e, ho⟩ := h.rows i hi hi'
  exact ⟨A, c, e, grown_row hg ho fun b eb => by have := hs b eb _ (List.getElem_mem hi); rwa [e] at this⟩
theorem OwnU.newG (h : OwnU w base m v1 v2 v3 low up ps vs) {v : Value} (hn : v'.ownBlock = v.ownBlock ∨ v'.ownBlock = some w.heap.size) (hs : ∀ b, v.ownBlock = some b → ∀ u ∈ vs, u.ownBlock ≠ some b) : ∀ b, v'.ownBlock = some b → ∀ u ∈ vs, u.ownBlock ≠ some b := fun b e u hu e2 => by
  rcases hn with q | q
  · exact hs b (q ▸ e) u hu e2
  · rw [q] at e
    have := h.rowLt hu e2
    cases e
    omega
theorem OwnU.app1 {x : Int} (h : OwnU w base m v1 v2 v3 low up ps vs) (ho : w'.ownsRow base 27 1 v' (low.length + 1) (low.map (Value.int .u8) ++ [.int .u8 x])) (hg : w.grownBy w' v1.ownBlock) (hn : v'.ownBlock = v1.ownBlock ∨ v'.ownBlock = some w.heap.size) : OwnU w' base m v' v2 v3 (low ++ [x]) up ps vs :=
  ⟨by simpa using ho, grown_row hg h.o2 h.s12, grown_row hg h.o3 h.s13, h.pl, h.rowsGrown hg h.g1, own_new (t1 := 0) hn h.o2 h.s12, own_new (t1 := 0) hn h.o3 h.s13, h.s23, h.newG hn h.g1, h.g2, h.g3⟩
theorem OwnU.app2 {x : Int} (h : OwnU w base m v1 v2 v3 low up ps vs) (ho : w'.ownsRow base 27 1 v' (up.length + 1) (up.map (Value.int .u8) ++ [.int .u8 x])) (hg : w.grownBy w' v2.ownBlock) (hn : v'.ownBlock = v2.ownBlock ∨ v'.ownBlock = some w.heap.size) : OwnU w' base m v1 v' v3 low (up ++ [x]) ps vs :=
  ⟨grown_row hg h.o1 fun b e e2 => h.s12 b e2 e, by simpa using ho, grown_row hg h.o3 h.s23, h.pl, h.rowsGrown hg h.g2, fun b e e2 => own_new (t1 := 0) hn h.o1 (fun b e e2 => h.s12 b e2 e) b e2 e, h.s13, own_new (t1 := 0) hn h.o3 h.s23, h.g1, h.newG hn h.g2, h.g3⟩
theorem OwnU.app3 {x : Value} (h : OwnU w base m v1 v2 v3 low up ps (vs ++ [x])) (hm : m = vs.length) (ho : w'.ownsRow base 22 1 v' (m + 1) (vs ++ [x])) (hg : w.grownBy w' v3.ownBlock) (hn : v'.ownBlock = v3.ownBlock ∨ v'.ownBlock = some w.heap.size) : OwnU w' base (vs ++ [x]).length v1 v2 v' low up ps (vs ++ [x]) := by
  refine ⟨grown_row hg h.o1 fun b e e2 => h.s13 b e2 e, grown_row hg h.o2 fun b e e2 => h.s23 b e2 e, ?_, h.pl, h.rowsGrown hg h.g3, h.s12, fun b e e2 => own_new (t1 := 0) hn h.o1 (fun b e e2 => h.s13 b e2 e) b e2 e, fun b e e2 => own_new (t1 := 0) hn h.o2 (fun b e e2 => h.s23 b e2 e) b e2 e, h.g1, h.g2, h.newG hn h.g3⟩
  rw [List.take_of_length_le (Nat.le_refl _)]
  subst hm
  simpa using ho
theorem OwnU.tab (h : OwnU w base vs.length v1 v2 v3 low up ps vs) : TabV w w.heap.size (.agg #[v1, v2, v3]) ⟨low, up, ps⟩ := by
  obtain ⟨o1, o2, o3, pl, rows, _⟩ := h
  rw [List.take_of_length_le (Nat.le_refl _)] at o3
  obtain ⟨A1, c1, rfl⟩ := ownsRow_form o1
  obtain ⟨A2, c2, rfl⟩ := ownsRow_form o2
  obtain ⟨A3, c3, rfl⟩ := ownsRow_form o3
  refine ⟨A1, c1, A2, c2, A3, c3, by rw [pl], RdI.of_own o1, RdI.of_own o2, rfl, ?_⟩
  have hc : vs.length ≤ c3 ∧ c3 ≤ maxLen := by
    rcases o3.2 with ⟨q, q2⟩ | ⟨g, cap, cur, q1, q2, q3, q4, q5, _⟩
    · injection q with q6 q7 q8; rw [q8, q2]; exact ⟨Nat.le_refl _, by unfold maxLen; omega⟩
    · injection q1 with q6 q7 q8; rw [q8]; exact ⟨q4, q5⟩
  refine ⟨by show ps.length ≤ c3; rw [pl]; exact hc.1, hc.2, fun hn => ?_⟩
  replace hn : 0 < ps.length := hn
  rcases o3.2 with ⟨q, _⟩ | ⟨g, cap, cur, q1, q2, q3, q4⟩
  · injection q with _ q; omega
  · cases q1
    refine ⟨g, 0, rfl, (Array.getElem?_eq_some_iff.1 q3).1, fun i hi => ?_⟩
    have hi2 : i < vs.length := by rw [← pl]; exact hi
    obtain ⟨A, c, r1, r2⟩ := rows i hi2 hi
    refine ⟨A, c, ?_, RdI.of_own r2⟩
    show w.cell? ⟨g, 0 + i, none⟩ = some (Value.slice A ps[i].length c)
    have := World.ownsRow.cells o3 (g := g) rfl i vs[i] (by simp [hi2])
    have ea : Addr.add ⟨g, 0, none⟩ i = ⟨g, 0 + i, none⟩ := by unfold Addr.add; split <;> simp_all
    rw [r1, ea] at this
    exact this
theorem OwnU.step1 {g g' B : Nat} {t t' : TypeId} {cs' : Array Value} {w0 : World} {x : Int} {o : Obj} (h : OwnU w base m v1 v2 v3 low up ps vs) (hk : Blk w g t #[v1, v2, v3]) (hk' : Blk w g' t' cs') (hg : g < base) (hg' : g' < base) (hne : g ≠ g') (hb : Below B w0 w) (hB : B ≤ w0.heap.size) (hBg : B ≤ g) (ho : w'.ownsRow base 27 1 v' (low.length + 1) (low.map (Value.int .u8) ++ [.int .u8 x])) (hgr : (w.alloc o).grownBy w' v1.ownBlock) (hn : v'.ownBlock = v1.ownBlock ∨ v'.ownBlock = some (w.alloc o).heap.size) :
    (w'.cell? ⟨g, 0, none⟩ = some v1 ∧ w'.frozen? ⟨g, 0, none⟩ = false) ∧ OwnU (w'.setCell ⟨g, 0, none⟩ v') base m v' v2 v3 (low ++ [x]) up ps vs ∧ Blk (w'.setCell ⟨g, 0, none⟩ v') g t #[v', v2, v3] ∧ Blk (w'.setCell ⟨g, 0, none⟩ v') g' t' cs' ∧ Below B w0 (w'.setCell ⟨g, 0, none⟩ v') := by
  have hf := h.fresh (below_box o)
  have h1 := hf.app1 ho hgr hn
  have k1 := (hk.alloc o).grown hgr fun e => by have := (ownsRow_lt h.o1 e.symm).1; omega
  have k1' := (hk'.alloc o).grown hgr fun e => by have := (ownsRow_lt h.o1 e.symm).1; omega
  have hBw : B ≤ w.heap.size := Nat.le_trans hB hb.size
  have hb0 := hb.alloc hBw o
  have hb1 := hb0.grown hgr (Nat.le_trans hB hb0.size) fun b e => by have := (ownsRow_lt h.o1 e).1; omega
  exact ⟨⟨k1.cell 0, k1.frozen 0⟩, h1.setG hg 0 v', k1.set_ 0 v', k1'.other hne 0 v', hb1.setCell (p := ⟨g, 0, none⟩) hBg v'⟩
theorem OwnU.step2 {g g' B : Nat} {t t' : TypeId} {cs' : Array Value} {w0 : World} {x : Int} {o : Obj} (h : OwnU w base m v1 v2 v3 low up ps vs) (hk : Blk w g t #[v1, v2, v3]) (hk' : Blk w g' t' cs') (hg : g < base) (hg' : g' < base) (hne : g ≠ g') (hb : Below B w0 w) (hB : B ≤ w0.heap.size) (hBg : B ≤ g) (ho : w'.ownsRow base 27 1 v' (up.length + 1) (up.map (Value.int .u8) ++ [.int .u8 x])) (hgr : (w.alloc o).grownBy w' v2.ownBlock) (hn : v'.ownBlock = v2.ownBlock ∨ v'.ownBlock = some (w.alloc o).heap.size) :
    (w'.cell? ⟨g, 1, none⟩ = some v2 ∧ w'.frozen? ⟨g, 1, none⟩ = false) ∧ OwnU (w'.setCell ⟨g, 1, none⟩ v') base m v1 v' v3 low (up ++ [x]) ps vs ∧ Blk (w'.setCell ⟨g, 1, none⟩ v') g t #[v1, v', v3] ∧ Blk (w'.setCell ⟨g, 1, none⟩ v') g' t' cs' ∧ Below B w0 (w'.setCell ⟨g, 1, none⟩ v') := by
  have hf := h.fresh (below_box o)
  have h1 := hf.app2 ho hgr hn
  have k1 := (hk.alloc o).grown hgr fun e => by have := (ownsRow_lt h.o2 e.symm).1; omega
  have k1' := (hk'.alloc o).grown hgr fun e => by have := (ownsRow_lt h.o2 e.symm).1; omega
  have hBw : B ≤ w.heap.size := Nat.le_trans hB hb.size
  have hb0 := hb.alloc hBw o
  have hb1 := hb0.grown hgr (Nat.le_trans hB hb0.size) fun b e => by have := (ownsRow_lt h.o2 e).1; omega
  exact ⟨⟨k1.cell 1, k1.frozen 1⟩, h1.setG hg 1 v', k1.set_ 1 v', k1'.other hne 1 v', hb1.setCell (p := ⟨g, 1, none⟩) hBg v'⟩
theorem OwnU.step3 {g g' B : Nat} {t t' : TypeId} {cs' : Array Value} {w0 : World} {x : Value} {o : Obj} (h : OwnU w base m v1 v2 v3 low up ps (vs ++ [x])) (hm : m = vs.length) (hk : Blk w g t #[v1, v2, v3]) (hk' : Blk w g' t' cs') (hg : g < base) (hg' : g' < base) (hne : g ≠ g') (hb : Below B w0 w) (hB : B ≤ w0.heap.size) (hBg : B ≤ g) (ho : w'.ownsRow base 22 1 v' (m + 1) (vs ++ [x])) (hgr : (w.alloc o).grownBy w' v3.ownBlock) (hn : v'.ownBlock = v3.ownBlock ∨ v'.ownBlock = some (w.alloc o).heap.size) :
    (w'.cell? ⟨g, 2, none⟩ = some v3 ∧ w'.frozen? ⟨g, 2, none⟩ = false) ∧ OwnU (w'.setCell ⟨g, 2, none⟩ v') base (vs ++ [x]).length v1 v2 v' low up ps (vs ++ [x]) ∧ Blk (w'.setCell ⟨g, 2, none⟩ v') g t #[v1, v2, v'] ∧ Blk (w'.setCell ⟨g, 2, none⟩ v') g' t' cs' ∧ Below B w0 (w'.setCell ⟨g, 2, none⟩ v') := by
  have hf := h.fresh (below_box o)
  have h1 := hf.app3 hm ho hgr hn
  have k1 := (hk.alloc o).grown hgr fun e => by have := (ownsRow_lt h.o3 e.symm).1; omega
  have k1' := (hk'.alloc o).grown hgr fun e => by have := (ownsRow_lt h.o3 e.symm).1; omega
  have hBw : B ≤ w.heap.size := Nat.le_trans hB hb.size
  have hb0 := hb.alloc hBw o
  have hb1 := hb0.grown hgr (Nat.le_trans hB hb0.size) fun b e => by have := (ownsRow_lt h.o3 e).1; omega
  exact ⟨⟨k1.cell 2, k1.frozen 2⟩, h1.setG hg 2 v', k1.set_ 2 v', k1'.other hne 2 v', hb1.setCell (p := ⟨g, 2, none⟩) hBg v'⟩
end

/-! ### the numbers -/
def lowK (x y z : Bool) (j : Nat) : Int := if x && decide (1 < j) then 1 else if y && decide (2 < j) then 2 else if z && decide (3 < j) then 3 else 0
def upK (x y z : Bool) (j : Nat) : Int := if z && decide (3 < j) then 3 else if y && decide (2 < j) then 2 else if x && decide (1 < j) then 1 else 0
/-- the bound before (a, b) is gone through; x, y, z: 2 over 1, 3 over 1, 3 over 2 -/
def cK (x y z : Bool) (a b : Nat) : Int := if (y && (decide (3 < a) || (a == 3 && decide (1 < b)))) || (z && (decide (3 < a) || (a == 3 && decide (2 < b)))) then 3 else if x && (decide (2 < a) || (a == 2 && decide (1 < b))) then 2 else 1
theorem lowK_all (p : Int → Bool) : lowK (p 1) (p 2) (p 3) 4 = lowB p := by unfold lowK lowB; cases p 1 <;> cases p 2 <;> cases p 3 <;> rfl
theorem upK_all (p : Int → Bool) : upK (p 1) (p 2) (p 3) 4 = upB p := by unfold upK upB; cases p 1 <;> cases p 2 <;> cases p 3 <;> rfl
theorem cK_all (q : Int → Int → Bool) : cK (q 2 1) (q 3 1) (q 3 2) 4 1 = rowB q := by unfold cK rowB; cases q 2 1 <;> cases q 3 1 <;> cases q 3 2 <;> rfl
theorem cK_one (x y z : Bool) : cK x y z 1 1 = 1 := by cases x <;> cases y <;> cases z <;> rfl
theorem cK_next (x y z : Bool) (a : Nat) (h : a = 1 ∨ a = 2 ∨ a = 3) : cK x y z a 4 = cK x y z (a + 1) 1 := by rcases h with rfl | rfl | rfl <;> cases x <;> cases y <;> cases z <;> rfl
theorem cK_rng (x y z : Bool) (a b : Nat) : cK x y z a b = 1 ∨ cK x y z a b = 2 ∨ cK x y z a b = 3 := by unfold cK; split <;> (try split) <;> simp
theorem cK_skip (x y z : Bool) (a b : Nat) (ha : a = 1 ∨ a = 2 ∨ a = 3) (hb : b = 1 ∨ b = 2 ∨ b = 3) (h : a ≤ b) : cK x y z a (b + 1) = cK x y z a b := by
  rcases ha with rfl | rfl | rfl <;> rcases hb with rfl | rfl | rfl <;> first | omega | (cases x <;> cases y <;> cases z <;> rfl)
theorem lowK_one (x y z : Bool) : lowK x y z 1 = 0 := by cases x <;> cases y <;> cases z <;> rfl
theorem upK_one (x y z : Bool) : upK x y z 1 = 0 := by cases x <;> cases y <;> cases z <;> rfl
def pickK (x y z : Bool) (j : Nat) : Bool := if j = 1 then x else if j = 2 then y else z
theorem lowK_yes {x y z : Bool} {j : Nat} {jj : Int} (hj : (j = 1 ∧ jj = 1) ∨ (j = 2 ∧ jj = 2) ∨ (j = 3 ∧ jj = 3)) (hq : pickK x y z j = true) : lowK x y z (j + 1) = if lowK x y z j = 0 then jj else lowK x y z j := by
  revert hq
  rcases hj with ⟨rfl, rfl⟩ | ⟨rfl, rfl⟩ | ⟨rfl, rfl⟩ <;> revert x y z <;> decide
theorem lowK_no {x y z : Bool} {j : Nat} (hj : j = 1 ∨ j = 2 ∨ j = 3) (hq : pickK x y z j = false) : lowK x y z (j + 1) = lowK x y z j := by
  revert hq
  rcases hj with rfl | rfl | rfl <;> revert x y z <;> decide
theorem upK_yes {x y z : Bool} {j : Nat} {jj : Int} (hj : (j = 1 ∧ jj = 1) ∨ (j = 2 ∧ jj = 2) ∨ (j = 3 ∧ jj = 3)) (hq : pickK x y z j = true) : upK x y z (j + 1) = jj := by
  revert hq
  rcases hj with ⟨rfl, rfl⟩ | ⟨rfl, rfl⟩ | ⟨rfl, rfl⟩ <;> revert x y z <;> decide
theorem upK_no {x y z : Bool} {j : Nat} (hj : j = 1 ∨ j = 2 ∨ j = 3) (hq : pickK x y z j = false) : upK x y z (j + 1) = upK x y z j := by
  revert hq
  rcases hj with rfl | rfl | rfl <;> revert x y z <;> decide
def pickC (x y z : Bool) (a b : Nat) : Bool := if a = 2 then x else if b = 1 then y else z
theorem cK_yes {x y z : Bool} {a b : Nat} {aa : Int} (h : (a = 2 ∧ b = 1 ∧ aa = 2) ∨ (a = 3 ∧ b = 1 ∧ aa = 3) ∨ (a = 3 ∧ b = 2 ∧ aa = 3)) (hq : pickC x y z a b = true) (hc : aa > cK x y z a b) : cK x y z a (b + 1) = aa := by
  revert hq hc
  rcases h with ⟨rfl, rfl, rfl⟩ | ⟨rfl, rfl, rfl⟩ | ⟨rfl, rfl, rfl⟩ <;> revert x y z <;> decide
theorem cK_no {x y z : Bool} {a b : Nat} {aa : Int} (h : (a = 2 ∧ b = 1 ∧ aa = 2) ∨ (a = 3 ∧ b = 1 ∧ aa = 3) ∨ (a = 3 ∧ b = 2 ∧ aa = 3)) (hq : pickC x y z a b = false) : cK x y z a (b + 1) = cK x y z a b := by
  revert hq
  rcases h with ⟨rfl, rfl, rfl⟩ | ⟨rfl, rfl, rfl⟩ | ⟨rfl, rfl, rfl⟩ <;> revert x y z <;> decide
theorem cK_not {x y z : Bool} {a b : Nat} {aa : Int} (h : (a = 2 ∧ b = 1 ∧ aa = 2) ∨ (a = 3 ∧ b = 1 ∧ aa = 3) ∨ (a = 3 ∧ b = 2 ∧ aa = 3)) (hc : ¬ aa > cK x y z a b) : cK x y z a (b + 1) = cK x y z a b := by
  revert hc
  rcases h with ⟨rfl, rfl, rfl⟩ | ⟨rfl, rfl, rfl⟩ | ⟨rfl, rfl, rfl⟩ <;> revert x y z <;> decide
end Go.Proofs.Ythabkpkgocafoaa

