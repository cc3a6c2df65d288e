/- The helpers of the laws of package least: great, up, k, v, works; what Solve tells where there is a least solution. -/
import Derived.Test.YthabkpkgocafoaaRefM
namespace Go.Proofs.Ythabkpkgocafoaa
set_option linter.unusedVariables false
set_option linter.unusedSimpArgs false
open Go.RowKit

/-- where there is a least solution Solve tells it -/
theorem SolveR.least {n : Nat} {low : List Int} {xs : List IneqD} {a core b : List Int} {e : Int} (h : SolveR (n : Int) low xs a core e) (hn : n ≤ 1048576) (hl : xs.length ≤ 1048576) (hok : OkS (n : Int) low xs) (hb : LeastSolL xs (low0 n low) b) : e = 0 ∧ a = b ∧ core = [] := by
  rcases h with ⟨h1, _⟩ | ⟨_, _, h1, _⟩ | ⟨_, _, _, is, why, hE, h1⟩
  · omega
  · exact absurd hok h1
  · rcases h1 with ⟨i, x, l, hi, hr, hc, _⟩ | ⟨hn0, rfl, rfl, rfl⟩
    · exact absurd hb.sol (hE.inv.clash (List.mem_of_getElem? hi) (hE.over x (List.mem_of_getElem? hi)) hr hc b)
    · exact ⟨rfl, (hE.ok hn0).unique hb, rfl⟩
/-- where there is none it tells a core -/
theorem SolveR.none {n : Nat} {low : List Int} {xs : List IneqD} {a core : List Int} {e : Int} (h : SolveR (n : Int) low xs a core e) (hn : n ≤ 1048576) (hl : xs.length ≤ 1048576) (hok : OkS (n : Int) low xs) (hb : ∀ b, ¬ SolvL xs (low0 n low) b) : e = 40 ∧ a = [] := by
  rcases h with ⟨h1, _⟩ | ⟨_, _, h1, _⟩ | ⟨_, _, _, is, why, hE, h1⟩
  · omega
  · exact absurd hok h1
  · rcases h1 with ⟨i, x, l, hi, hr, hc, _, rfl, _, rfl⟩ | ⟨hn0, rfl, rfl, rfl⟩
    · exact ⟨rfl, rfl⟩
    · exact absurd (hE.ok hn0).sol (hb _)
theorem SolveR.bad {n : Int} {low : List Int} {xs : List IneqD} {a core : List Int} {e : Int} (h : SolveR n low xs a core e) (hn : n ≤ 1048576) (hl : xs.length ≤ 1048576) (hok : ¬ OkS n low xs) : a = [] ∧ core = [] ∧ e = 2 := by
  rcases h with ⟨h1, _⟩ | ⟨_, _, _, h1⟩ | ⟨_, _, h1, _⟩
  · omega
  · exact h1
  · exact absurd h1 hok

def greatL (n : Int) (nw nl : Nat) : Bool := decide (n > 200) || decide ((nw : Int) > 300) || decide ((nl : Int) > 400)
theorem greatL_any (b : Bool) (n : Int) (A : Option Addr) (nw c : Nat) (A' : Option Addr) (nl c' : Nat) (w : World) (hb : greatL n nw nl = b) :
    Calls Try.prog 19 #[.int .i64 n, .slice A nw c, .slice A' nl c'] w fun e w' => e = .returned (.bool b) ∧ w = w' := by
  unfold greatL at hb
  by_cases h1 : n > 200
  · have d1 : decide (n > 200) = true := by simp; omega
    have HB : Hid (true = b) := by show _ = _; rw [← hb, d1]; rfl
    clear hb h1
    go_enter Try.func19, Try.ntmps19
    go_wp2_with fail
    go_ret
    exact ⟨ret_bool HB.out, rfl⟩
  · have d1 : decide (n > 200) = false := by simp; omega
    by_cases h2 : nw > 300
    · have d2 : decide ((nw : Int) > 300) = true := by simp; omega
      have HB : Hid (true = b) := by show _ = _; rw [← hb, d1, d2]; rfl
      clear hb h1 h2
      go_enter Try.func19, Try.ntmps19
      go_wp2_with fail
      go_ret
      exact ⟨ret_bool HB.out, rfl⟩
    · have d2 : decide ((nw : Int) > 300) = false := by simp; omega
      have HB : Hid (decide ((nl : Int) > 400) = b) := by show _ = _; rw [← hb, d1, d2]; rfl
      clear hb h1 h2
      go_enter Try.func19, Try.ntmps19
      go_wp2_with fail
      go_ret
      exact ⟨ret_bool HB.out, rfl⟩

theorem k_any (m : Int) (w : World) : Calls Try.prog 14 #[.int .u8 m] w fun e w' => e = .returned (.agg #[.int .i64 0, .int .u8 m]) ∧ Below w.heap.size w w' := by
  have hX := blk_new w #[.int .i64 0, .int .u8 m] 29
  have hb := below_box (w := w) (Obj.cells #[.int .i64 0, .int .u8 m] 29)
  have d0 : (w.alloc (Obj.cells #[.int .i64 0, .int .u8 m] 29)).cell? ⟨w.heap.size, 0, none⟩ = some (.int .i64 0) := hX.cell 0
  have d1 : (w.alloc (Obj.cells #[.int .i64 0, .int .u8 m] 29)).cell? ⟨w.heap.size, 1, none⟩ = some (.int .u8 m) := hX.cell 1
  go_enter Try.func14, Try.ntmps14
  go_wp2_with fail
  generalize w.alloc (Obj.cells #[.int .i64 0, .int .u8 m] 29) = w3 at hb d0 d1 ⊢
  exact bodyPost_ret (v := .agg #[.int .i64 0, .int .u8 m]) (by simp [results, Try.results14, go_sem, d0, d1]) rfl ⟨rfl, hb⟩
theorem v_any (m : Int) (w : World) : Calls Try.prog 15 #[.int .i64 m] w fun e w' => e = .returned (.agg #[.int .i64 m, .int .u8 0]) ∧ Below w.heap.size w w' := by
  have hX := blk_new w #[.int .i64 m, .int .u8 0] 29
  have hb := below_box (w := w) (Obj.cells #[.int .i64 m, .int .u8 0] 29)
  have d0 : (w.alloc (Obj.cells #[.int .i64 m, .int .u8 0] 29)).cell? ⟨w.heap.size, 0, none⟩ = some (.int .i64 m) := hX.cell 0
  have d1 : (w.alloc (Obj.cells #[.int .i64 m, .int .u8 0] 29)).cell? ⟨w.heap.size, 1, none⟩ = some (.int .u8 0) := hX.cell 1
  go_enter Try.func15, Try.ntmps15
  go_wp2_with fail
  generalize w.alloc (Obj.cells #[.int .i64 m, .int .u8 0] 29) = w3 at hb d0 d1 ⊢
  exact bodyPost_ret (v := .agg #[.int .i64 m, .int .u8 0]) (by simp [results, Try.results15, go_sem, d0, d1]) rfl ⟨rfl, hb⟩

theorem up_any (lv lc c r : Int) (w : World) : Calls Try.prog 13 #[.agg #[.int .i64 lv, .int .u8 lc], .int .u8 c, .int .i64 r] w fun e w' => e = .returned (.agg #[.int .i64 lv, .int .u8 lc, .int .u8 c, .int .i64 r]) ∧ Below w.heap.size w w' := by
  have hb0 := below_box (w := w) (Obj.cells #[.int .i64 lv, .int .u8 lc] 29)
  have hX0 := blk_new w #[.int .i64 lv, .int .u8 lc] 29
  have hb : Below w.heap.size w ((w.alloc (Obj.cells #[.int .i64 lv, .int .u8 lc] 29)).alloc (Obj.cells #[.int .i64 lv, .int .u8 lc, .int .u8 c, .int .i64 r] 31)) := hb0.alloc hb0.size _
  have hX := blk_new (w.alloc (Obj.cells #[.int .i64 lv, .int .u8 lc] 29)) #[.int .i64 lv, .int .u8 lc, .int .u8 c, .int .i64 r] 31
  have hz : (w.alloc (Obj.cells #[.int .i64 lv, .int .u8 lc] 29)).heap.size = w.heap.size + 1 := by simp
  rw [hz] at hX
  have d0 : ((w.alloc (Obj.cells #[.int .i64 lv, .int .u8 lc] 29)).alloc (Obj.cells #[.int .i64 lv, .int .u8 lc, .int .u8 c, .int .i64 r] 31)).cell? ⟨w.heap.size + 1, 0, none⟩ = some (.int .i64 lv) := hX.cell 0
  have d1 : ((w.alloc (Obj.cells #[.int .i64 lv, .int .u8 lc] 29)).alloc (Obj.cells #[.int .i64 lv, .int .u8 lc, .int .u8 c, .int .i64 r] 31)).cell? ⟨w.heap.size + 1, 1, none⟩ = some (.int .u8 lc) := hX.cell 1
  have d2 : ((w.alloc (Obj.cells #[.int .i64 lv, .int .u8 lc] 29)).alloc (Obj.cells #[.int .i64 lv, .int .u8 lc, .int .u8 c, .int .i64 r] 31)).cell? ⟨w.heap.size + 1, 2, none⟩ = some (.int .u8 c) := hX.cell 2
  have d3 : ((w.alloc (Obj.cells #[.int .i64 lv, .int .u8 lc] 29)).alloc (Obj.cells #[.int .i64 lv, .int .u8 lc, .int .u8 c, .int .i64 r] 31)).cell? ⟨w.heap.size + 1, 3, none⟩ = some (.int .i64 r) := hX.cell 3
  go_enter Try.func13, Try.ntmps13
  go_wp2_with fail
  generalize (w.alloc (Obj.cells #[.int .i64 lv, .int .u8 lc] 29)).alloc (Obj.cells #[.int .i64 lv, .int .u8 lc, .int .u8 c, .int .i64 r] 31) = w3 at hb d0 d1 d2 d3 ⊢
  exact bodyPost_ret (v := .agg #[.int .i64 lv, .int .u8 lc, .int .u8 c, .int .i64 r]) (by simp [results, Try.results13, go_sem, d0, d1, d2, d3]) rfl ⟨rfl, hb⟩

/-- what works lays before Solve -/
def xsW : List IneqD := [⟨0, 2, 1, 0⟩, ⟨0, 0, 1, 1⟩, ⟨0, 0, 2, 2⟩]
theorem xsW_least : LeastSolL xsW (low0 (3 : Nat) []) [2, 2, 1] := by
  have e : low0 ((3 : Nat) : Int) [] = [1, 1, 1] := by decide
  rw [e]
  refine ⟨⟨rfl, by decide, by unfold xsW holdL; decide⟩, fun asg h => ?_⟩
  obtain ⟨h1, h2, h3⟩ := h
  match asg, h1 with
  | [a, b, c], _ =>
    have k0 := h3 ⟨0, 2, 1, 0⟩ (by simp [xsW])
    have k1 := h3 ⟨0, 0, 1, 1⟩ (by simp [xsW])
    have l0 := h2 0 (by simp)
    have l1 := h2 1 (by simp)
    have l2 := h2 2 (by simp)
    simp [holdL, leftL] at k0 k1 l0 l1 l2
    intro v hv
    match v, hv with
    | 0, _ => simp; omega
    | 1, _ => simp; omega
    | 2, _ => simp; omega
theorem xsW_ok : OkS ((3 : Nat) : Int) [] xsW := ⟨by decide, Or.inl rfl, by unfold xsW; decide, fun z hz => by cases hz⟩

/-- a slice of inequalities just laid -/
def cellsQ : List IneqD → List Value
  | [] => []
  | x :: r => [.int .i64 x.lv, .int .u8 x.lc, .int .u8 x.c, .int .i64 x.r] ++ cellsQ r
theorem cellsQ_len : ∀ xs : List IneqD, (cellsQ xs).length = xs.length * 4
  | [] => rfl
  | x :: r => by show ([_, _, _, _] ++ cellsQ r).length = (r.length + 1) * 4; rw [List.length_append, cellsQ_len r]; simp; omega
theorem cellsQ_at : ∀ (xs : List IneqD) (i j : Nat) (h : i < xs.length), j < 4 → (cellsQ xs)[i * 4 + j]? = [Value.int .i64 xs[i].lv, .int .u8 xs[i].lc, .int .u8 xs[i].c, .int .i64 xs[i].r][j]?
  | x :: r, 0, j, _, hj => by
    show ([_, _, _, _] ++ cellsQ r)[0 * 4 + j]? = _
    rw [List.getElem?_append_left (by simp; omega)]
    simp
  | x :: r, i + 1, j, h, hj => by
    show ([_, _, _, _] ++ cellsQ r)[(i + 1) * 4 + j]? = _
    rw [List.getElem?_append_right (by simp; omega)]
    rw [show (i + 1) * 4 + j - [Value.int .i64 x.lv, .int .u8 x.lc, .int .u8 x.c, .int .i64 x.r].length = i * 4 + j by simp; omega, cellsQ_at r i j (by simpa using h) hj]
    rfl
theorem IneqsV.laid {w : World} {b : Nat} {t : TypeId} {xs : List IneqD} (h : Blk w b t (cellsQ xs).toArray) (hm : xs.length ≤ maxLen) : IneqsV w w.heap.size (some ⟨b, 0, none⟩) xs.length xs.length xs := by
  refine ⟨rfl, Nat.le_refl _, hm, fun _ => ⟨b, 0, rfl, h.lt, fun i hi => ?_⟩⟩
  have hc : ∀ j, j < 4 → w.cell? ⟨b, 0 + i * 4 + j, none⟩ = [Value.int .i64 xs[i].lv, .int .u8 xs[i].lc, .int .u8 xs[i].c, .int .i64 xs[i].r][j]? := fun j hj => by
    rw [Blk.cell h, Nat.zero_add]
    have := cellsQ_at xs i j hi hj
    simpa using this
  exact ⟨hc 0 (by omega), hc 1 (by omega), hc 2 (by omega), hc 3 (by omega)⟩

set_option maxHeartbeats 1000000 in
theorem worksL_any (w : World) : Calls Try.prog 16 #[] w fun e w' => e = .returned (.bool true) ∧ Below w.heap.size w w' := by
  go_enter Try.func16, Try.ntmps16
  go_wp2_with fail
  refine (k_any 2 w).mono ?_; rintro e w1 ⟨rfl, hb1⟩
  go_wp2_with fail
  refine (up_any 0 2 1 0 w1).mono ?_; rintro e w2 ⟨rfl, hb2⟩
  go_wp2_with fail
  refine (v_any 0 w2).mono ?_; rintro e w3 ⟨rfl, hb3⟩
  go_wp2_with fail
  refine (up_any 0 0 1 1 w3).mono ?_; rintro e w4 ⟨rfl, hb4⟩
  go_wp2_with fail
  refine (v_any 0 w4).mono ?_; rintro e w5 ⟨rfl, hb5⟩
  go_wp2_with fail
  refine (up_any 0 0 2 2 w5).mono ?_; rintro e w6 ⟨rfl, hb6⟩
  have h2 := hb1.trans (hb2.mono hb1.size)
  have h3 := h2.trans (hb3.mono h2.size)
  have h4 := h3.trans (hb4.mono h3.size)
  have h5 := h4.trans (hb5.mono h4.size)
  have h6 := h5.trans (hb6.mono h5.size)
  clear hb1 hb2 hb3 hb4 hb5 hb6 h2 h3 h4 h5
  go_wp2_with fail
  have hbk : Blk (w6.alloc (Obj.cells #[.int .i64 0, .int .u8 2, .int .u8 1, .int .i64 0, .int .i64 0, .int .u8 0, .int .u8 1, .int .i64 1, .int .i64 0, .int .u8 0, .int .u8 2, .int .i64 2] 31)) w6.heap.size 31 (cellsQ xsW).toArray := blk_new w6 _ _
  have h7 := h6.alloc h6.size (Obj.cells #[.int .i64 0, .int .u8 2, .int .u8 1, .int .i64 0, .int .i64 0, .int .u8 0, .int .u8 1, .int .i64 1, .int .i64 0, .int .u8 0, .int .u8 2, .int .i64 2] 31)
  generalize w6.alloc (Obj.cells #[.int .i64 0, .int .u8 2, .int .u8 1, .int .i64 0, .int .i64 0, .int .u8 0, .int .u8 1, .int .i64 1, .int .i64 0, .int .u8 0, .int .u8 2, .int .i64 2] 31) = w7 at hbk h7 ⊢
  have hx : IneqsV w7 w7.heap.size (some ⟨w6.heap.size, 0, none⟩) 3 3 xsW := IneqsV.laid hbk (by unfold maxLen xsW; simp)
  refine (solve_any 3 none 0 0 [] (some ⟨w6.heap.size, 0, none⟩) 3 3 xsW w7 RdI.nil hx).mono ?_
  rintro e w8 ⟨A, m, c, A2, m2, c2, a, core, er, rfl, hra, hrc, hS, hb8⟩
  obtain ⟨rfl, rfl, _⟩ := hS.least (n := 3) (by omega) (by unfold xsW; simp) xsW_ok xsW_least
  have Hra := Lib.hid hra
  have H8 := Lib.hid (h7.trans (hb8.mono h7.size))
  clear hra hrc hb8 h7 h6 hx hbk hS
  go_wp2_with fail
  have hb9 := below_box (w := w8) (Obj.cells #[.int .u8 2, .int .u8 2, .int .u8 1] 27)
  have hr9 : RdI .u8 (w8.alloc (Obj.cells #[.int .u8 2, .int .u8 2, .int .u8 1] 27)) (w8.alloc (Obj.cells #[.int .u8 2, .int .u8 2, .int .u8 1] 27)).heap.size (some ⟨w8.heap.size, 0, none⟩) 3 3 [2, 2, 1] := RowC.rd ⟨_, blk_new w8 _ _, by simp, fun i hi => by match i, hi with | 0, _ => rfl | 1, _ => rfl | 2, _ => rfl⟩ rfl (Nat.le_refl _) (by unfold maxLen; omega)
  refine (equalM_any A m c [2, 2, 1] _ 3 3 [2, 2, 1] _ ((Hra.out.below hb9).more hb9.size) hr9).mono ?_
  rintro e w10 ⟨rfl, hb10⟩
  have H10 := Lib.hid ((H8.out.trans (hb9.mono H8.out.size)).trans (hb10.mono (Nat.le_trans H8.out.size hb9.size)))
  clear hb9 hr9 hb10
  go_wp2_with fail
  go_ret
  exact ⟨by first | rfl | decide | simp, H10.out⟩

end Go.Proofs.Ythabkpkgocafoaa
