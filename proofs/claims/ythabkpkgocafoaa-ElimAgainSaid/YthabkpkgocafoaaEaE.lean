/- Texts of this claim, laid one behind the other: LawL, LawM, LawN. -/
import Derived.Test.YthabkpkgocafoaaEaK
import Derived.Test.YthabkpkgocafoaaEaA
/- The helpers of the laws of package least: great, up, k, v, works; what Solve tells where there is a least solution. -/
namespace Go.Proofs.Ythabkpkgocafoaa
set_option linter.unusedVariables false
set_option linter.unusedSimpArgs false
open Go.RowKit

/-- where there is a least solution Solve tells it -/
theorem SolveR.least {n : Nat} {low : List Int} {xs : List IneqD} {a core b : List Int} {e : Int} (h : SolveR (n : Int) low xs a core e) (hn : n ≤ 1048576) (hl : xs.length ≤ 1048576) (hok : OkS (n : Int) low xs) (hb : LeastSolL xs (low0 n low) b) : e = 0 ∧ a = b ∧ core = [] := by
  rcases h with ⟨h1, _⟩ | ⟨_, _, h1, _⟩ | ⟨_, _, _, is, why, hE, h1⟩
  · omega
  · exact absurd hok h1
  · rcases h1 with ⟨i, x, l, hi, hr, hc, _⟩ | ⟨hn0, rfl, rfl, rfl⟩
    · exact absurd hb.sol (hE.inv.clash (List.mem_of_getElem? hi) (hE.over x (List.mem_of_getElem? hi)) hr hc b)
    · exact ⟨rfl, (hE.ok hn0).unique hb, rfl⟩
/-- where there is none it tells a core -/
theorem SolveR.none {n : Nat} {low : List Int} {xs : List IneqD} {a core : List Int} {e : Int} (h : SolveR (n : Int) low xs a core e) (hn : n ≤ 1048576) (hl : xs.length ≤ 1048576) (hok : OkS (n : Int) low xs) (hb : ∀ b, ¬ SolvL xs (low0 n low) b) : e = 40 ∧ a = [] := by
  rcases h with ⟨h1, _⟩ | ⟨_, _, h1, _⟩ | ⟨_, _, _, is, why, hE, h1⟩
  · omega
  · exact absurd hok h1
  · rcases h1 with ⟨i, x, l, hi, hr, hc, _, rfl, _, rfl⟩ | ⟨hn0, rfl, rfl, rfl⟩
    · exact ⟨rfl, rfl⟩
    · exact absurd (hE.ok hn0).sol (hb _)
theorem SolveR.bad {n : Int} {low : List Int} {xs : List IneqD} {a core : List Int} {e : Int} (h : SolveR n low xs a core e) (hn : n ≤ 1048576) (hl : xs.length ≤ 1048576) (hok : ¬ OkS n low xs) : a = [] ∧ core = [] ∧ e = 2 := by
  rcases h with ⟨h1, _⟩ | ⟨_, _, _, h1⟩ | ⟨_, _, h1, _⟩
  · omega
  · exact h1
  · exact absurd h1 hok

def greatL (n : Int) (nw nl : Nat) : Bool := decide (n > 200) || decide ((nw : Int) > 300) || decide ((nl : Int) > 400)
theorem greatL_any (b : Bool) (n : Int) (A : Option Addr) (nw c : Nat) (A' : Option Addr) (nl c' : Nat) (w : World) (hb : greatL n nw nl = b) :
    Calls Try.prog 19 #[.int .i64 n, .slice A nw c, .slice A' nl c'] w fun e w' => e = .returned (.bool b) ∧ w = w' := by
  unfold greatL at hb
  by_cases h1 : n > 200
  · have d1 : decide (n > 200) = true := by simp; omega
    have HB : Hid (true = b) := by show _ = _; rw [← hb, d1]; rfl
    clear hb h1
    go_enter Try.func19, Try.ntmps19
    go_wp2_with fail
    go_ret
    exact ⟨ret_bool HB.out, rfl⟩
  · have d1 : decide (n > 200) = false := by simp; omega
    by_cases h2 : nw > 300
    · have d2 : decide ((nw : Int) > 300) = true := by simp; omega
      have HB : Hid (true = b) := by show _ = _; rw [← hb, d1, d2]; rfl
      clear hb h1 h2
      go_enter Try.func19, Try.ntmps19
      go_wp2_with fail
      go_ret
      exact ⟨ret_bool HB.out, rfl⟩
    · have d2 : decide ((nw : Int) > 300) = false := by simp; omega
      have HB : Hid (decide ((nl : Int) > 400) = b) := by show _ = _; rw [← hb, d1, d2]; rfl
      clear hb h1 h2
      go_enter Try.func19, Try.ntmps19
      go_wp2_with fail
      go_ret
      exact ⟨ret_bool HB.out, rfl⟩

theorem k_any (m : Int) (w : World) : Calls Try.prog 14 #[.int .u8 m] w fun e w' => e = .returned (.agg #[.int .i64 0, .int .u8 m]) ∧ Below w.heap.size w w' := by
  have hX := blk_new w #[.int .i64 0, .int .u8 m] 29
  have hb := below_box (w := w) (Obj.cells #[.int .i64 0, .int .u8 m] 29)
  have d0 : (w.alloc (Obj.cells #[.int .i64 0, .int .u8 m] 29)).cell? ⟨w.heap.size, 0, none⟩ = some (.int .i64 0) := hX.cell 0
  have d1 : (w.alloc (Obj.cells #[.int .i64 0, .int .u8 m] 29)).cell? ⟨w.heap.size, 1, none⟩ = some (.int .u8 m) := hX.cell 1
  go_enter Try.func14, Try.ntmps14
  go_wp2_with fail
  generalize w.alloc (Obj.cells #[.int .i64 0, .int .u8 m] 29) = w3 at hb d0 d1 ⊢
  exact bodyPost_ret (v := .agg #[.int .i64 0, .int .u8 m]) (by simp [results, Try.results14, go_sem, d0, d1]) rfl ⟨rfl, hb⟩
theorem v_any (m : Int) (w : World) : Calls Try.prog 15 #[.int .i64 m] w fun e w' => e = .returned (.agg #[.int .i64 m, .int .u8 0]) ∧ Below w.heap.size w w' := by
  have hX := blk_new w #[.int .i64 m, .int .u8 0] 29
  have hb := below_box (w := w) (Obj.cells #[.int .i64 m, .int .u8 0] 29)
  have d0 : (w.alloc (Obj.cells #[.int .i64 m, .int .u8 0] 29)).cell? ⟨w.heap.size, 0, none⟩ = some (.int .i64 m) := hX.cell 0
  have d1 : (w.alloc (Obj.cells #[.int .i64 m, .int .u8 0] 29)).cell? ⟨w.heap.size, 1, none⟩ = some (.int .u8 0) := hX.cell 1
  go_enter Try.func15, Try.ntmps15
  go_wp2_with fail
  generalize w.alloc (Obj.cells #[.int .i64 m, .int .u8 0] 29) = w3 at hb d0 d1 ⊢
  exact bodyPost_ret (v := .agg #[.int .i64 m, .int .u8 0]) (by simp [results, Try.results15, go_sem, d0, d1]) rfl ⟨rfl, hb⟩

theorem up_any (lv lc c r : Int) (w : World) : Calls Try.prog 13 #[.agg #[.int .i64 lv, .int .u8 lc], .int .u8 c, .int .i64 r] w fun e w' => e = .returned (.agg #[.int .i64 lv, .int .u8 lc, .int .u8 c, .int .i64 r]) ∧ Below w.heap.size w w' := by
  have hb0 := below_box (w := w) (Obj.cells #[.int .i64 lv, .int .u8 lc] 29)
  have hX0 := blk_new w #[.int .i64 lv, .int .u8 lc] 29
  have hb : Below w.heap.size w ((w.alloc (Obj.cells #[.int .i64 lv, .int .u8 lc] 29)).alloc (Obj.cells #[.int .i64 lv, .int .u8 lc, .int .u8 c, .int .i64 r] 31)) := hb0.alloc hb0.size _
  have hX := blk_new (w.alloc (Obj.cells #[.int .i64 lv, .int .u8 lc] 29)) #[.int .i64 lv, .int .u8 lc, .int .u8 c, .int .i64 r] 31
  have hz : (w.alloc (Obj.cells #[.int .i64 lv, .int .u8 lc] 29)).heap.size = w.heap.size + 1 := by simp
  rw [hz] at hX
  have d0 : ((w.alloc (Obj.cells #[.int .i64 lv, .int .u8 lc] 29)).alloc (Obj.cells #[.int .i64 lv, .int .u8 lc, .int .u8 c, .int .i64 r] 31)).cell? ⟨w.heap.size + 1, 0, none⟩ = some (.int .i64 lv) := hX.cell 0
  have d1 : ((w.alloc (Obj.cells #[.int .i64 lv, .int .u8 lc] 29)).alloc (Obj.cells #[.int .i64 lv, .int .u8 lc, .int .u8 c, .int .i64 r] 31)).cell? ⟨w.heap.size + 1, 1, none⟩ = some (.int .u8 lc) := hX.cell 1
  have d2 : ((w.alloc (Obj.cells #[.int .i64 lv, .int .u8 lc] 29)).alloc (Obj.cells #[.int .i64 lv, .int .u8 lc, .int .u8 c, .int .i64 r] 31)).cell? ⟨w.heap.size + 1, 2, none⟩ = some (.int .u8 c) := hX.cell 2
  have d3 : ((w.alloc (Obj.cells #[.int .i64 lv, .int .u8 lc] 29)).alloc (Obj.cells #[.int .i64 lv, .int .u8 lc, .int .u8 c, .int .i64 r] 31)).cell? ⟨w.heap.size + 1, 3, none⟩ = some (.int .i64 r) := hX.cell 3
  go_enter Try.func13, Try.ntmps13
  go_wp2_with fail
  generalize (w.alloc (Obj.cells #[.int .i64 lv, .int .u8 lc] 29)).alloc (Obj.cells #[.int .i64 lv, .int .u8 lc, .int .u8 c, .int .i64 r] 31) = w3 at hb d0 d1 d2 d3 ⊢
  exact bodyPost_ret (v := .agg #[.int .i64 lv, .int .u8 lc, .int .u8 c, .int .i64 r]) (by simp [results, Try.results13, go_sem, d0, d1, d2, d3]) rfl ⟨rfl, hb⟩

/-- what works lays before Solve -/
def xsW : List IneqD := [⟨0, 2, 1, 0⟩, ⟨0, 0, 1, 1⟩, ⟨0, 0, 2, 2⟩]
theorem xsW_least : LeastSolL xsW (low0 (3 : Nat) []) [2, 2, 1] := by
  have e : low0 ((3 : Nat) : Int) [] = [1, 1, 1] := by decide
  rw [e]
  refine ⟨⟨rfl, by decide, by unfold xsW holdL; decide⟩, fun asg h => ?_⟩
  obtain ⟨h1, h2, h3⟩ := h
  match asg, h1 with
  | [a, b, c], _ =>
    have k0 := h3 ⟨0, 2, 1, 0⟩ (by simp [xsW])
    have k1 := h3 ⟨0, 0, 1, 1⟩ (by simp [xsW])
    have l0 := h2 0 (by simp)
    have l1 := h2 1 (by simp)
    have l2 := h2 2 (by simp)
    simp [holdL, leftL] at k0 k1 l0 l1 l2
    intro v hv
    match v, hv with
    | 0, _ => simp; omega
    | 1, _ => simp; omega
    | 2, _ => simp; omega
theorem xsW_ok : OkS ((3 : Nat) : Int) [] xsW := ⟨by decide, Or.inl rfl, by unfold xsW; decide, fun z hz => by cases hz⟩

/-- a slice of inequalities just laid -/
def cellsQ : List IneqD → List Value
  | [] => []
  | x :: r => [.int .i64 x.lv, .int .u8 x.lc, .int .u8 x.c, .int .i64 x.r] ++ cellsQ r
theorem cellsQ_len : ∀ xs : List IneqD, (cellsQ xs).length = xs.length * 4
  | [] => rfl
  | x :: r => by show ([_, _, _, _] ++ cellsQ r).length = (r.length + 1) * 4; rw [List.length_append, cellsQ_len r]; simp; omega
theorem cellsQ_at : ∀ (xs : List IneqD) (i j : Nat) (h : i < xs.length), j < 4 → (cellsQ xs)[i * 4 + j]? = [Value.int .i64 xs[i].lv, .int .u8 xs[i].lc, .int .u8 xs[i].c, .int .i64 xs[i].r][j]?
  | x :: r, 0, j, _, hj => by
    show ([_, _, _, _] ++ cellsQ r)[0 * 4 + j]? = _
    rw [List.getElem?_append_left (by simp; omega)]
    simp
  | x :: r, i + 1, j, h, hj => by
    show ([_, _, _, _] ++ cellsQ r)[(i + 1) * 4 + j]? = _
    rw [List.getElem?_append_right (by simp; omega)]
    rw [show (i + 1) * 4 + j - [Value.int .i64 x.lv, .int .u8 x.lc, .int .u8 x.c, .int .i64 x.r].length = i * 4 + j by simp; omega, cellsQ_at r i j (by simpa using h) hj]
    rfl
theorem IneqsV.laid {w : World} {b : Nat} {t : TypeId} {xs : List IneqD} (h : Blk w b t (cellsQ xs).toArray) (hm : xs.length ≤ maxLen) : IneqsV w w.heap.size (some ⟨b, 0, none⟩) xs.length xs.length xs := by
  refine ⟨rfl, Nat.le_refl _, hm, fun _ => ⟨b, 0, rfl, h.lt, fun i hi => ?_⟩⟩
  have hc : ∀ j, j < 4 → w.cell? ⟨b, 0 + i * 4 + j, none⟩ = [Value.int .i64 xs[i].lv, .int .u8 xs[i].lc, .int .u8 xs[i].c, .int .i64 xs[i].r][j]? := fun j hj => by
    rw [Blk.cell h, Nat.zero_add]
    have := cellsQ_at xs i j hi hj
    simpa using this
  exact ⟨hc 0 (by omega), hc 1 (by omega), hc 2 (by omega), hc 3 (by omega)⟩

set_option maxHeartbeats 1000000 in
theorem worksL_any (w : World) : Calls Try.prog 16 #[] w fun e w' => e = .returned (.bool true) ∧ Below w.heap.size w w' := by
  go_enter Try.func16, Try.ntmps16
  go_wp2_with fail
  refine (k_any 2 w).mono ?_; rintro e w1 ⟨rfl, hb1⟩
  go_wp2_with fail
  refine (up_any 0 2 1 0 w1).mono ?_; rintro e w2 ⟨rfl, hb2⟩
  go_wp2_with fail
  refine (v_any 0 w2).mono ?_; rintro e w3 ⟨rfl, hb3⟩
  go_wp2_with fail
  refine (up_any 0 0 1 1 w3).mono ?_; rintro e w4 ⟨rfl, hb4⟩
  go_wp2_with fail
  refine (v_any 0 w4).mono ?_; rintro e w5 ⟨rfl, hb5⟩
  go_wp2_with fail
  refine (up_any 0 0 2 2 w5).mono ?_; rintro e w6 ⟨rfl, hb6⟩
  have h2 := hb1.trans (hb2.mono hb1.size)
  have h3 := h2.trans (hb3.mono h2.size)
  have h4 := h3.trans (hb4.mono h3.size)
  have h5 := h4.trans (hb5.mono h4.size)
  have h6 := h5.trans (hb6.mono h5.size)
  clear hb1 hb2 hb3 hb4 hb5 hb6 h2 h3 h4 h5
  go_wp2_with fail
  have hbk : Blk (w6.alloc (Obj.cells #[.int .i64 0, .int .u8 2, .int .u8 1, .int .i64 0, .int .i64 0, .int .u8 0, .int .u8 1, .int .i64 1, .int .i64 0, .int .u8 0, .int .u8 2, .int .i64 2] 31)) w6.heap.size 31 (cellsQ xsW).toArray := blk_new w6 _ _
  have h7 := h6.alloc h6.size (Obj.cells #[.int .i64 0, .int .u8 2, .int .u8 1, .int .i64 0, .int .i64 0, .int .u8 0, .int .u8 1, .int .i64 1, .int .i64 0, .int .u8 0, .int .u8 2, .int .i64 2] 31)
  generalize w6.alloc (Obj.cells #[.int .i64 0, .int .u8 2, .int .u8 1, .int .i64 0, .int .i64 0, .int .u8 0, .int .u8 1, .int .i64 1, .int .i64 0, .int .u8 0, .int .u8 2, .int .i64 2] 31) = w7 at hbk h7 ⊢
  have hx : IneqsV w7 w7.heap.size (some ⟨w6.heap.size, 0, none⟩) 3 3 xsW := IneqsV.laid hbk (by unfold maxLen xsW; simp)
  refine (solve_any 3 none 0 0 [] (some ⟨w6.heap.size, 0, none⟩) 3 3 xsW w7 RdI.nil hx).mono ?_
  rintro e w8 ⟨A, m, c, A2, m2, c2, a, core, er, rfl, hra, hrc, hS, hb8⟩
  obtain ⟨rfl, rfl, _⟩ := hS.least (n := 3) (by omega) (by unfold xsW; simp) xsW_ok xsW_least
  have Hra := Lib.hid hra
  have H8 := Lib.hid (h7.trans (hb8.mono h7.size))
  clear hra hrc hb8 h7 h6 hx hbk hS
  go_wp2_with fail
  have hb9 := below_box (w := w8) (Obj.cells #[.int .u8 2, .int .u8 2, .int .u8 1] 27)
  have hr9 : RdI .u8 (w8.alloc (Obj.cells #[.int .u8 2, .int .u8 2, .int .u8 1] 27)) (w8.alloc (Obj.cells #[.int .u8 2, .int .u8 2, .int .u8 1] 27)).heap.size (some ⟨w8.heap.size, 0, none⟩) 3 3 [2, 2, 1] := RowC.rd ⟨_, blk_new w8 _ _, by simp, fun i hi => by match i, hi with | 0, _ => rfl | 1, _ => rfl | 2, _ => rfl⟩ rfl (Nat.le_refl _) (by unfold maxLen; omega)
  refine (equalM_any A m c [2, 2, 1] _ 3 3 [2, 2, 1] _ ((Hra.out.below hb9).more hb9.size) hr9).mono ?_
  rintro e w10 ⟨rfl, hb10⟩
  have H10 := Lib.hid ((H8.out.trans (hb9.mono H8.out.size)).trans (hb10.mono (Nat.le_trans H8.out.size hb9.size)))
  clear hb9 hr9 hb10
  go_wp2_with fail
  go_ret
  exact ⟨by first | rfl | decide | simp, H10.out⟩

end Go.Proofs.Ythabkpkgocafoaa

/- Plain laws for LeastBelow and LeastAgain. -/
namespace Go.Proofs.Ythabkpkgocafoaa
set_option linter.unusedVariables false
set_option linter.unusedSimpArgs false

/-- where there is a solution Solve tells the least one -/
theorem SolveR.solv {n : Nat} {low : List Int} {xs : List IneqD} {a core b : List Int} {e : Int} (h : SolveR (n : Int) low xs a core e) (hn : n ≤ 1048576) (hl : xs.length ≤ 1048576) (hok : OkS (n : Int) low xs) (hb : SolvL xs (low0 n low) b) : e = 0 ∧ core = [] ∧ LeastSolL xs (low0 n low) a := by
  rcases h with ⟨h1, _⟩ | ⟨_, _, h1, _⟩ | ⟨_, _, _, is, why, hE, h1⟩
  · omega
  · exact absurd hok h1
  · rcases h1 with ⟨i, x, l, hi, hr, hc, _⟩ | ⟨hn0, rfl, rfl, rfl⟩
    · exact absurd hb (hE.inv.clash (List.mem_of_getElem? hi) (hE.over x (List.mem_of_getElem? hi)) hr hc b)
    · exact ⟨rfl, rfl, hE.ok hn0⟩
/-- what Solve's OK tells -/
theorem SolveR.zero {n : Int} {low : List Int} {xs : List IneqD} {a core : List Int} {e : Int} (h : SolveR n low xs a core e) (he : e = 0) : n ≤ 1048576 ∧ xs.length ≤ 1048576 ∧ OkS n low xs ∧ LeastSolL xs (low0 n low) a ∧ core = [] := by
  rcases h with ⟨_, _, _, h1⟩ | ⟨_, _, _, _, _, h1⟩ | ⟨q1, q2, h1, is, why, hE, h2⟩
  · omega
  · omega
  · rcases h2 with ⟨i, x, l, hi, hr, hc, _, _, _, h3⟩ | ⟨hn0, rfl, rfl, _⟩
    · omega
    · exact ⟨q1, q2, h1, hE.ok hn0, rfl⟩

theorem firstGo_neg : ∀ (asg : List Int) (xs : List IneqD) (i : Int), 0 ≤ i → ((firstGo asg xs i < 0 → ∀ x ∈ xs, holdsX asg x = true) ∧ ((∀ x ∈ xs, holdsX asg x = true) → firstGo asg xs i = -1))
  | asg, [], i, hi => ⟨fun _ x hx => absurd hx (by simp), fun _ => rfl⟩
  | asg, x :: r, i, hi => by
    have ih := firstGo_neg asg r (i + 1) (by omega)
    unfold firstGo
    split
    · rename_i h
      refine ⟨fun q y hy => ?_, fun q => ih.2 fun y hy => q y (List.mem_cons_of_mem _ hy)⟩
      rcases List.mem_cons.1 hy with rfl | hy
      · exact h
      · exact ih.1 q y hy
    · rename_i h
      exact ⟨fun q => by omega, fun q => absurd (q x List.mem_cons_self) h⟩
theorem holdsAll_neg {asg : List Int} {xs : List IneqD} (h1 : (holdsAll asg xs).1 < 0) : (∀ x ∈ xs, mayX x = true) ∧ (∀ x ∈ xs, badX asg x = false) ∧ ∀ x ∈ xs, holdsX asg x = true := by
  unfold holdsAll at h1
  split at h1
  · rename_i q1
    split at h1
    · simp at h1
    · rename_i q2
      exact ⟨fun x hx => List.all_eq_true.1 q1 x hx, fun x hx => by
        have := List.any_eq_false.1 (by simpa using q2) x hx
        simpa using this, (firstGo_neg asg xs 0 (Int.le_refl _)).1 h1⟩
  · simp at h1
theorem holdsAll_yes {asg : List Int} {xs : List IneqD} (h1 : ∀ x ∈ xs, mayX x = true) (h2 : ∀ x ∈ xs, badX asg x = false) (h3 : ∀ x ∈ xs, holdsX asg x = true) : holdsAll asg xs = (-1, 0) := by
  unfold holdsAll
  rw [if_pos (List.all_eq_true.2 h1), if_neg (by
    rw [Bool.not_eq_true, List.any_eq_false]
    intro x hx
    rw [h2 x hx]; simp), (firstGo_neg asg xs 0 (Int.le_refl _)).2 h3]

/-- what LeastBelow's guards tell -/
theorem below_ok {N : Nat} {low asg : List Int} {xs : List IneqD} (hl : asg.length = N) (hlen : low = [] ∨ low.length = N) (h1 : (holdsAll asg xs).1 < 0) (hr : ∀ (i : Nat) (h : i < asg.length), 1 ≤ asg[i] ∧ asg[i] ≤ 3) (hlw : ∀ (i : Nat) (h : i < low.length) (h2 : i < asg.length), 1 ≤ low[i] ∧ low[i] ≤ asg[i]) :
    OkS (N : Int) low xs ∧ SolvL xs (low0 N low) asg := by
  obtain ⟨m1, m2, m3⟩ := holdsAll_neg h1
  have hmay : ∀ x ∈ xs, mayL x (N : Int) = true := fun x hx => by
    have a := m1 x hx
    have b := m2 x hx
    unfold badX badQ at b
    simp only [Bool.or_eq_false_iff, Bool.and_eq_false_iff] at b
    unfold mayL
    rw [a]
    simp only [Bool.true_and, Bool.and_eq_true, Bool.or_eq_true, decide_eq_true_eq, bne_iff_ne, ne_eq]
    have okv : ∀ v, okV asg v = true → v < N := fun v h => by
      unfold okV at h
      simp only [Bool.and_eq_true, decide_eq_true_eq] at h
      omega
    constructor
    · by_cases h0 : x.lc = 0
      · right
        rcases b.1 with q | q
        · simp [h0] at q
        · exact okv _ (by simpa using q)
      · exact Or.inl h0
    · rcases b.2 with q | q
      · have : x.r < 0 := by simpa using q
        omega
      · exact okv _ (by simpa using q)
  have hok : OkS (N : Int) low xs := ⟨by omega, hlen.imp_right (fun h => by omega), hmay, fun z hz => by
    obtain ⟨i, hi, rfl⟩ := List.getElem_of_mem hz
    have hi2 : i < asg.length := by
      rcases hlen with h | h
      · rw [h] at hi; simp at hi
      · omega
    have := hlw i hi hi2
    have := hr i hi2
    omega⟩
  refine ⟨hok, by rw [low0_len hok]; exact hl, fun v hv => ?_, fun x hx => ?_⟩
  · rw [low0_len hok] at hv
    have hv2 : v < asg.length := by omega
    have e1 : asg.getD v 0 = asg[v] := by rw [List.getD_eq_getElem?_getD, List.getElem?_eq_getElem hv2]; rfl
    rw [e1]
    unfold low0
    split
    · have : (List.replicate ((N : Int).toNat) (1 : Int)).getD v 0 = 1 := by simp [List.getD, hv]
      rw [this]
      exact (hr v hv2).1
    · rename_i hne
      have hv3 : v < low.length := by
        rcases hlen with h | h
        · exact absurd h hne
        · omega
      rw [List.getD_eq_getElem?_getD, List.getElem?_eq_getElem hv3]
      exact (hlw v hv3 hv2).2
  · have hov := OverL.of_may (hmay x hx)
    refine (holdsQ_iff hov hl fun v hv => ?_).2.1 (m3 x hx)
    have hv2 : v < asg.length := by omega
    rw [List.getD_eq_getElem?_getD, List.getElem?_eq_getElem hv2]
    exact hr v hv2
/-- a least solution lies in 1..3 -/
theorem LeastSolL.rng {N : Nat} {low : List Int} {xs : List IneqD} {a asg : List Int} (hok : OkS (N : Int) low xs) (h : LeastSolL xs (low0 N low) a) (ha : SolvL xs (low0 N low) asg) (hr : ∀ v, v < N → asg.getD v 0 ≤ 3) : ∀ v, v < N → 1 ≤ a.getD v 0 ∧ a.getD v 0 ≤ 3 := fun v hv => by
  have h1 := h.least asg ha v (by rw [low0_len hok]; exact hv)
  have h2 := h.sol.low v (by rw [low0_len hok]; exact hv)
  have h3 := low0_rng hok _ (getD_mem (l := low0 N low) (by rw [low0_len hok]; exact hv))
  have h4 := hr v hv
  omega
theorem LeastSolL.holds {N : Nat} {low : List Int} {xs : List IneqD} {a : List Int} (hok : OkS (N : Int) low xs) (h : LeastSolL xs (low0 N low) a) (hr : ∀ v, v < N → 1 ≤ a.getD v 0 ∧ a.getD v 0 ≤ 3) : holdsAll a xs = (-1, 0) := by
  have hl : a.length = N := by rw [h.sol.len, low0_len hok]
  have hx : ∀ x ∈ xs, mayX x = true := fun x hx => by
    have := hok.may x hx
    unfold mayL at this
    simp only [Bool.and_eq_true] at this
    exact this.1.1
  exact holdsAll_yes hx (fun x hx => (holdsQ_iff (OverL.of_may (hok.may x hx)) hl hr).1) (fun x hx => (holdsQ_iff (OverL.of_may (hok.may x hx)) hl hr).2.2 (h.sol.hold x hx))

end Go.Proofs.Ythabkpkgocafoaa

/- Lists of inequalities that the laws lay: slices.Clone, slices.Delete, append. -/
namespace Go.Proofs.Ythabkpkgocafoaa
set_option linter.unusedVariables false
set_option linter.unusedSimpArgs false
open Go.RowKit

theorem ineqInfo : (Try.prog.info? 31).map (fun i => (i.zero, i.size, i.bytes)) = some (some (.agg #[.int .i64 0, .int .u8 0, .int .u8 0, .int .i64 0]), 4, 32) := by kernel_rfl
theorem cellsQ_append : ∀ a b : List IneqD, cellsQ (a ++ b) = cellsQ a ++ cellsQ b
  | [], b => rfl
  | x :: a, b => by show [_, _, _, _] ++ cellsQ (a ++ b) = ([_, _, _, _] ++ cellsQ a) ++ cellsQ b; rw [cellsQ_append a b, List.append_assoc]
theorem cellsQ_one : ∀ (xs : List IneqD), ∀ u ∈ cellsQ xs, u.oneCell' = true
  | [], u, h => by cases h
  | x :: r, u, h => by
    have h : u ∈ [Value.int .i64 x.lv, .int .u8 x.lc, .int .u8 x.c, .int .i64 x.r] ++ cellsQ r := h
    rcases List.mem_append.1 h with h | h
    · simp at h
      rcases h with rfl | rfl | rfl | rfl <;> rfl
    · exact cellsQ_one r u h
theorem IneqsV.rd4 {w : World} {B : Nat} {A : Option Addr} {n c : Nat} {xs : List IneqD} (h : IneqsV w B A n c xs) : Rd w B 4 A n (cellsQ xs) := by
  refine ⟨by rw [cellsQ_len, h.len], fun hn => ?_⟩
  obtain ⟨b, o, e, hb, hc⟩ := h.at_ hn
  refine ⟨b, o, e, hb, fun j u hu => ?_⟩
  have hj : j < xs.length * 4 := by have := (List.getElem?_eq_some_iff.1 hu).1; rw [cellsQ_len] at this; exact this
  have hi : j / 4 < xs.length := by omega
  obtain ⟨e0, e1, e2, e3⟩ := hc (j / 4) hi
  have h0 := cellsQ_at xs (j / 4) (j % 4) hi (by omega)
  rw [show j / 4 * 4 + j % 4 = j by omega, hu] at h0
  rw [show o + j = o + j / 4 * 4 + j % 4 by omega]
  have h4 : j % 4 < 4 := by omega
  generalize j % 4 = r at h0 h4 ⊢
  match r, h4, h0 with
  | 0, _, h0 => rw [show u = _ from Option.some.inj h0]; exact e0
  | 1, _, h0 => rw [show u = _ from Option.some.inj h0]; exact e1
  | 2, _, h0 => rw [show u = _ from Option.some.inj h0]; exact e2
  | 3, _, h0 => rw [show u = _ from Option.some.inj h0]; exact e3
theorem IneqsV.of_own4 {w : World} {B : Nat} {A : Option Addr} {n c : Nat} {xs : List IneqD} (h : w.ownsRow B 31 4 (.slice A n c) n (cellsQ xs)) : IneqsV w w.heap.size A n c xs := by
  have hl : xs.length = n := by have := h.1; rw [cellsQ_len] at this; omega
  rcases h.2 with ⟨e0, hn⟩ | ⟨g, cap, cur, e0, hb, hg, hn, hm, hs, ht⟩
  · injection e0 with e1 e2 e3
    subst e1; subst e2; subst e3
    exact ⟨hl, Nat.le_refl _, Nat.zero_le _, fun h => absurd h (by omega)⟩
  · injection e0 with e1 e2 e3
    subst e1; subst e3
    refine ⟨hl, hn, hm, fun hn0 => ⟨g, 0, rfl, (Array.getElem?_eq_some_iff.1 hg).1, fun i hi => ?_⟩⟩
    have hc : ∀ j, j < 4 → w.cell? ⟨g, 0 + i * 4 + j, none⟩ = [Value.int .i64 xs[i].lv, .int .u8 xs[i].lc, .int .u8 xs[i].c, .int .i64 xs[i].r][j]? := fun j hj => by
      have h0 := cellsQ_at xs i j hi hj
      have h1 : j < [Value.int .i64 xs[i].lv, .int .u8 xs[i].lc, .int .u8 xs[i].c, .int .i64 xs[i].r].length := by simpa using hj
      rw [List.getElem?_eq_getElem h1] at h0 ⊢
      have := h.cells (g := g) rfl _ _ h0
      rw [show (Addr.add ⟨g, 0, none⟩ (i * 4 + j)) = ⟨g, 0 + i * 4 + j, none⟩ from by unfold Addr.add; split <;> simp_all] at this
      exact this
    exact ⟨hc 0 (by omega), hc 1 (by omega), hc 2 (by omega), hc 3 (by omega)⟩

set_option maxHeartbeats 1000000 in
theorem cloneQ_any (A : Option Addr) (n c : Nat) (xs : List IneqD) (w : World) (hx : IneqsV w w.heap.size A n c xs) (hbig : n ≤ 1048576) :
    Calls Try.prog 22 #[.slice A n c] w fun e w' => ∃ A' c', e = .returned (.slice A' n c') ∧ w'.ownsRow w.heap.size 31 4 (.slice A' n c') n (cellsQ xs) ∧ Below w.heap.size w w' := by
  obtain ⟨i0, hi0, hz0, hz1, hz2⟩ := info_parts ineqInfo
  have hq := fun w a n c n' c' => Lib.run_eql_slice_nil (P := Try.prog) w 35 31 a n c n' c' Try.underlying35
  have hl := hx.len
  rcases A with _ | a
  · have hn : n = 0 := by
      rcases Nat.eq_zero_or_pos n with h | h
      · exact h
      · obtain ⟨_, _, e, _⟩ := hx.at_ h
        cases e
    subst hn
    obtain rfl := List.eq_nil_of_length_eq_zero hl
    clear hx
    go_enter Try.func22, Try.ntmps22
    go_wp2_with fail
    go_ret
    exact ⟨none, 0, rfl, World.ownsRow_nil _ _ _ _, Below.refl _ _⟩
  · have hr1 := hx.rd4.keep (w' := w.alloc (Obj.cells #[] 31)) (fun p hp => World.cell?_alloc_lt _ _ p hp)
    go_enter Try.func22, Try.ntmps22
    go_wp2_with (at_builtin; refine wpList_append_rd _ rfl _ _ 35 rfl w.heap.size 31 i0 _ 4 32 Try.underlying35 hi0 hz0 hz1 hz2 rfl (by omega) _ 0 [] rfl (World.ownsRow_lit w #[] 0 (Nat.le_refl _) (Nat.zero_le _) rfl) w.heap.size (some a) n c (cellsQ xs) rfl hr1 (cellsQ_one xs) (by unfold maxLen; omega) (by omega) (by simp) ?_; intro v1 w1 hown1 hg1 hat1; obtain ⟨A1, c1, rfl⟩ := ownsRow_form hown1)
    go_ret
    rw [Nat.zero_add] at hown1
    exact ⟨A1, c1, rfl, by simpa using hown1, ((Below.refl _ _).alloc (Nat.le_refl _) _).grown hg1 (by simp) (fun k hk => by have hk' : some w.heap.size = some k := hk; injection hk' with h; omega)⟩

/-! ### LeastAgain, plain -/
theorem SolveR.ways {n : Nat} {low : List Int} {xs : List IneqD} {a core : List Int} {e : Int} (h : SolveR (n : Int) low xs a core e) (hn : n ≤ 1048576) (hl : xs.length ≤ 1048576) (hok : OkS (n : Int) low xs) :
    (e = 0 ∧ LeastSolL xs (low0 n low) a ∧ ∀ z ∈ a, 1 ≤ z ∧ z ≤ 3) ∨ (e = 40 ∧ a = [] ∧ ∀ b, ¬ SolvL xs (low0 n low) b) := by
  rcases h with ⟨h1, _⟩ | ⟨_, _, h1, _⟩ | ⟨_, _, _, is, why, hE, h1⟩
  · omega
  · exact absurd hok h1
  · rcases h1 with ⟨i, x, l, hi, hr, hc, _, rfl, _, rfl⟩ | ⟨hn0, rfl, rfl, rfl⟩
    · exact Or.inr ⟨rfl, rfl, fun b hb => hE.inv.clash (List.mem_of_getElem? hi) (hE.over x (List.mem_of_getElem? hi)) hr hc b hb⟩
    · refine Or.inl ⟨rfl, hE.ok hn0, fun z hz => ?_⟩
      obtain ⟨v, hv, rfl⟩ := List.getElem_of_mem hz
      have hv2 : v < (low0 n low).length := by rw [← hE.inv.il]; exact hv
      have h1 := hE.inv.le v hv2
      have h2 := hE.inv.top v hv2
      have h3 := low0_rng hok _ (getD_mem hv2)
      rw [List.getD_eq_getElem?_getD (l := a), List.getElem?_eq_getElem hv] at h1 h2
      simp only [Option.getD_some] at h1 h2
      omega
theorem low0_self {n : Nat} {a : List Int} (h : a.length = n) : low0 (n : Int) a = a := by
  unfold low0
  split
  · rename_i e
    subst e
    have : n = 0 := h.symm
    subst this
    rfl
  · rfl
/-- solved again -/
theorem again_self {n : Nat} {low a b core : List Int} {xs : List IneqD} {e : Int} (hok : OkS (n : Int) low xs) (ha : LeastSolL xs (low0 n low) a) (hr : ∀ z ∈ a, 1 ≤ z ∧ z ≤ 3) (hn : n ≤ 1048576) (hl : xs.length ≤ 1048576) (h : SolveR (n : Int) a xs b core e) : e = 0 ∧ b = a := by
  have hal : a.length = n := by rw [ha.sol.len, low0_len hok]
  have hok2 : OkS (n : Int) a xs := ⟨hok.n0, Or.inr (by omega), hok.may, hr⟩
  have hL : LeastSolL xs (low0 n a) a := by
    rw [low0_self hal]
    exact ⟨⟨rfl, fun v hv => Int.le_refl _, ha.sol.hold⟩, fun asg q => q.low⟩
  obtain ⟨h1, h2, _⟩ := h.least hn hl hok2 hL
  exact ⟨h1, h2⟩
/-- with more of them -/
theorem again_more {n : Nat} {low a c d core core' : List Int} {xs ys : List IneqD} {e f : Int} (hok : OkS (n : Int) low xs) (ha : LeastSolL xs (low0 n low) a) (hr : ∀ z ∈ a, 1 ≤ z ∧ z ≤ 3) (hn : n ≤ 1048576) (hl : xs.length + ys.length ≤ 1048576)
    (h1 : SolveR (n : Int) low (xs ++ ys) c core e) (h2 : SolveR (n : Int) a (ys ++ xs) d core' f) :
    e = f ∧ (e = 0 → c = d ∧ c.length = a.length ∧ ∀ (i : Nat) (h : i < c.length) (h' : i < a.length), a[i] ≤ c[i]) := by
  have hal : a.length = n := by rw [ha.sol.len, low0_len hok]
  by_cases hm : ∀ x ∈ ys, mayL x (n : Int) = true
  · have k1 : OkS (n : Int) low (xs ++ ys) := ⟨hok.n0, hok.len, fun x hx => (List.mem_append.1 hx).elim (hok.may x) (hm x), hok.rng⟩
    have k2 : OkS (n : Int) a (ys ++ xs) := ⟨hok.n0, Or.inr (by omega), fun x hx => (List.mem_append.1 hx).elim (hm x) (hok.may x), hr⟩
    have to : ∀ b, SolvL (xs ++ ys) (low0 n low) b → SolvL (ys ++ xs) (low0 n a) b := fun b hb => by
      rw [low0_self hal]
      have hbx : SolvL xs (low0 n low) b := hb.sub fun x hx => List.mem_append_left _ hx
      refine ⟨by rw [hb.len, low0_len hok, hal], fun v hv => ha.least b hbx v (by rw [low0_len hok]; omega), fun x hx => hb.hold x (List.mem_append.2 (List.mem_append.1 hx).symm)⟩
    have from' : ∀ b, SolvL (ys ++ xs) (low0 n a) b → SolvL (xs ++ ys) (low0 n low) b := fun b hb => by
      rw [low0_self hal] at hb
      refine ⟨by rw [hb.len, low0_len hok, hal], fun v hv => ?_, fun x hx => hb.hold x (List.mem_append.2 (List.mem_append.1 hx).symm)⟩
      rw [low0_len hok] at hv
      have q1 := ha.sol.low v (by rw [low0_len hok]; exact hv)
      have q2 := hb.low v (by omega)
      omega
    rcases h1.ways hn (by simp; omega) k1 with ⟨rfl, c1, _⟩ | ⟨rfl, _, c1⟩
    · rcases h2.ways hn (by simp; omega) k2 with ⟨rfl, d1, _⟩ | ⟨_, _, d1⟩
      · refine ⟨rfl, fun _ => ⟨?_, by rw [c1.sol.len, low0_len hok, hal], fun i h h' => ?_⟩⟩
        · have : LeastSolL (ys ++ xs) (low0 n a) c := ⟨to c c1.sol, fun asg q v hv => by
            rw [low0_self hal] at hv
            exact c1.least asg (from' asg q) v (by rw [low0_len hok]; omega)⟩
          exact this.unique d1
        · have q := (to c c1.sol).low i (by rw [low0_self hal]; exact h')
          rw [low0_self hal, List.getD_eq_getElem?_getD, List.getD_eq_getElem?_getD, List.getElem?_eq_getElem h, List.getElem?_eq_getElem h'] at q
          exact q
      · exact absurd (to c c1.sol) (d1 c)
    · rcases h2.ways hn (by simp; omega) k2 with ⟨_, d1, _⟩ | ⟨rfl, _, d1⟩
      · exact absurd (from' d d1.sol) (c1 d)
      · exact ⟨rfl, fun q => by omega⟩
  · have k1 : ¬ OkS (n : Int) low (xs ++ ys) := fun q => hm fun x hx => q.may x (List.mem_append_right _ hx)
    have k2 : ¬ OkS (n : Int) a (ys ++ xs) := fun q => hm fun x hx => q.may x (List.mem_append_left _ hx)
    obtain ⟨_, _, rfl⟩ := h1.bad (by omega) (by simp; omega) k1
    obtain ⟨_, _, rfl⟩ := h2.bad (by omega) (by simp; omega) k2
    exact ⟨rfl, fun q => by omega⟩

end Go.Proofs.Ythabkpkgocafoaa

