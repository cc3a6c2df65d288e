/- Lists of inequalities that the laws lay: slices.Clone, slices.Delete, append. -/
import Derived.Test.YthabkpkgocafoaaLawM
namespace Go.Proofs.Ythabkpkgocafoaa
set_option linter.unusedVariables false
set_option linter.unusedSimpArgs false
open Go.RowKit

theorem ineqInfo : (Try.prog.info? 31).map (fun i => (i.zero, i.size, i.bytes)) = some (some (.agg #[.int .i64 0, .int .u8 0, .int .u8 0, .int .i64 0]), 4, 32) := by kernel_rfl
theorem cellsQ_append : ∀ a b : List IneqD, cellsQ (a ++ b) = cellsQ a ++ cellsQ b
  | [], b => rfl
  | x :: a, b => by show [_, _, _, _] ++ cellsQ (a ++ b) = ([_, _, _, _] ++ cellsQ a) ++ cellsQ b; rw [cellsQ_append a b, List.append_assoc]
theorem cellsQ_one : ∀ (xs : List IneqD), ∀ u ∈ cellsQ xs, u.oneCell' = true
  | [], u, h => by cases h
  | x :: r, u, h => by
    have h : u ∈ [Value.int .i64 x.lv, .int .u8 x.lc, .int .u8 x.c, .int .i64 x.r] ++ cellsQ r := h
    rcases List.mem_append.1 h with h | h
    · simp at h
      rcases h with rfl | rfl | rfl | rfl <;> rfl
    · exact cellsQ_one r u h
theorem IneqsV.rd4 {w : World} {B : Nat} {A : Option Addr} {n c : Nat} {xs : List IneqD} (h : IneqsV w B A n c xs) : Rd w B 4 A n (cellsQ xs) := by
  refine ⟨by rw [cellsQ_len, h.len], fun hn => ?_⟩
  obtain ⟨b, o, e, hb, hc⟩ := h.at_ hn
  refine ⟨b, o, e, hb, fun j u hu => ?_⟩
  have hj : j < xs.length * 4 := by have := (List.getElem?_eq_some_iff.1 hu).1; rw [cellsQ_len] at this; exact this
  have hi : j / 4 < xs.length := by omega
  obtain ⟨e0, e1, e2, e3⟩ := hc (j / 4) hi
  have h0 := cellsQ_at xs (j / 4) (j % 4) hi (by omega)
  rw [show j / 4 * 4 + j % 4 = j by omega, hu] at h0
  rw [show o + j = o + j / 4 * 4 + j % 4 by omega]
  have h4 : j % 4 < 4 := by omega
  generalize j % 4 = r at h0 h4 ⊢
  match r, h4, h0 with
  | 0, _, h0 => rw [show u = _ from Option.some.inj h0]; exact e0
  | 1, _, h0 => rw [show u = _ from Option.some.inj h0]; exact e1
  | 2, _, h0 => rw [show u = _ from Option.some.inj h0]; exact e2
  | 3, _, h0 => rw [show u = _ from Option.some.inj h0]; exact e3
theorem IneqsV.of_own4 {w : World} {B : Nat} {A : Option Addr} {n c : Nat} {xs : List IneqD} (h : w.ownsRow B 31 4 (.slice A n c) n (cellsQ xs)) : IneqsV w w.heap.size A n c xs := by
  have hl : xs.length = n := by have := h.1; rw [cellsQ_len] at this; omega
  rcases h.2 with ⟨e0, hn⟩ | ⟨g, cap, cur, e0, hb, hg, hn, hm, hs, ht⟩
  · injection e0 with e1 e2 e3
    subst e1; subst e2; subst e3
    exact ⟨hl, Nat.le_refl _, Nat.zero_le _, fun h => absurd h (by omega)⟩
  · injection e0 with e1 e2 e3
    subst e1; subst e3
    refine ⟨hl, hn, hm, fun hn0 => ⟨g, 0, rfl, (Array.getElem?_eq_some_iff.1 hg).1, fun i hi => ?_⟩⟩
    have hc : ∀ j, j < 4 → w.cell? ⟨g, 0 + i * 4 + j, none⟩ = [Value.int .i64 xs[i].lv, .int .u8 xs[i].lc, .int .u8 xs[i].c, .int .i64 xs[i].r][j]? := fun j hj => by
      have h0 := cellsQ_at xs i j hi hj
      have h1 : j < [Value.int .i64 xs[i].lv, .int .u8 xs[i].lc, .int .u8 xs[i].c, .int .i64 xs[i].r].length := by simpa using hj
      rw [List.getElem?_eq_getElem h1] at h0 ⊢
      have := h.cells (g := g) rfl _ _ h0
      rw [show (Addr.add ⟨g, 0, none⟩ (i * 4 + j)) = ⟨g, 0 + i * 4 + j, none⟩ from by unfold Addr.add; split <;> simp_all] at this
      exact this
    exact ⟨hc 0 (by omega), hc 1 (by omega), hc 2 (by omega), hc 3 (by omega)⟩

set_option maxHeartbeats 1000000 in
theorem cloneQ_any (A : Option Addr) (n c : Nat) (xs : List IneqD) (w : World) (hx : IneqsV w w.heap.size A n c xs) (hbig : n ≤ 1048576) :
    Calls Try.prog 22 #[.slice A n c] w fun e w' => ∃ A' c', e = .returned (.slice A' n c') ∧ w'.ownsRow w.heap.size 31 4 (.slice A' n c') n (cellsQ xs) ∧ Below w.heap.size w w' := by
  obtain ⟨i0, hi0, hz0, hz1, hz2⟩ := info_parts ineqInfo
  have hq := fun w a n c n' c' => Lib.run_eql_slice_nil (P := Try.prog) w 35 31 a n c n' c' Try.underlying35
  have hl := hx.len
  rcases A with _ | a
  · have hn : n = 0 := by
      rcases Nat.eq_zero_or_pos n with h | h
      · exact h
      · obtain ⟨_, _, e, _⟩ := hx.at_ h
        cases e
    subst hn
    obtain rfl := List.eq_nil_of_length_eq_zero hl
    clear hx
    go_enter Try.func22, Try.ntmps22
    go_wp2_with fail
    go_ret
    exact ⟨none, 0, rfl, World.ownsRow_nil _ _ _ _, Below.refl _ _⟩
  · have hr1 := hx.rd4.keep (w' := w.alloc (Obj.cells #[] 31)) (fun p hp => World.cell?_alloc_lt _ _ p hp)
    go_enter Try.func22, Try.ntmps22
    go_wp2_with (at_builtin; refine wpList_append_rd _ rfl _ _ 35 rfl w.heap.size 31 i0 _ 4 32 Try.underlying35 hi0 hz0 hz1 hz2 rfl (by omega) _ 0 [] rfl (World.ownsRow_lit w #[] 0 (Nat.le_refl _) (Nat.zero_le _) rfl) w.heap.size (some a) n c (cellsQ xs) rfl hr1 (cellsQ_one xs) (by unfold maxLen; omega) (by omega) (by simp) ?_; intro v1 w1 hown1 hg1 hat1; obtain ⟨A1, c1, rfl⟩ := ownsRow_form hown1)
    go_ret
    rw [Nat.zero_add] at hown1
    exact ⟨A1, c1, rfl, by simpa using hown1, ((Below.refl _ _).alloc (Nat.le_refl _) _).grown hg1 (by simp) (fun k hk => by have hk' : some w.heap.size = some k := hk; injection hk' with h; omega)⟩

/-! ### LeastAgain, plain -/
theorem SolveR.ways {n : Nat} {low : List Int} {xs : List IneqD} {a core : List Int} {e : Int} (h : SolveR (n : Int) low xs a core e) (hn : n ≤ 1048576) (hl : xs.length ≤ 1048576) (hok : OkS (n : Int) low xs) :
    (e = 0 ∧ LeastSolL xs (low0 n low) a ∧ ∀ z ∈ a, 1 ≤ z ∧ z ≤ 3) ∨ (e = 40 ∧ a = [] ∧ ∀ b, ¬ SolvL xs (low0 n low) b) := by
  rcases h with ⟨h1, _⟩ | ⟨_, _, h1, _⟩ | ⟨_, _, _, is, why, hE, h1⟩
  · omega
  · exact absurd hok h1
  · rcases h1 with ⟨i, x, l, hi, hr, hc, _, rfl, _, rfl⟩ | ⟨hn0, rfl, rfl, rfl⟩
    · exact Or.inr ⟨rfl, rfl, fun b hb => hE.inv.clash (List.mem_of_getElem? hi) (hE.over x (List.mem_of_getElem? hi)) hr hc b hb⟩
    · refine Or.inl ⟨rfl, hE.ok hn0, fun z hz => ?_⟩
      obtain ⟨v, hv, rfl⟩ := List.getElem_of_mem hz
      have hv2 : v < (low0 n low).length := by rw [← hE.inv.il]; exact hv
      have h1 := hE.inv.le v hv2
      have h2 := hE.inv.top v hv2
      have h3 := low0_rng hok _ (getD_mem hv2)
      rw [List.getD_eq_getElem?_getD (l := a), List.getElem?_eq_getElem hv] at h1 h2
      simp only [Option.getD_some] at h1 h2
      omega
theorem low0_self {n : Nat} {a : List Int} (h : a.length = n) : low0 (n : Int) a = a := by
  unfold low0
  split
  · rename_i e
    subst e
    have : n = 0 := h.symm
    subst this
    rfl
  · rfl
/-- solved again -/
theorem again_self {n : Nat} {low a b core : List Int} {xs : List IneqD} {e : Int} (hok : OkS (n : Int) low xs) (ha : LeastSolL xs (low0 n low) a) (hr : ∀ z ∈ a, 1 ≤ z ∧ z ≤ 3) (hn : n ≤ 1048576) (hl : xs.length ≤ 1048576) (h : SolveR (n : Int) a xs b core e) : e = 0 ∧ b = a := by
  have hal : a.length = n := by rw [ha.sol.len, low0_len hok]
  have hok2 : OkS (n : Int) a xs := ⟨hok.n0, Or.inr (by omega), hok.may, hr⟩
  have hL : LeastSolL xs (low0 n a) a := by
    rw [low0_self hal]
    exact ⟨⟨rfl, fun v hv => Int.le_refl _, ha.sol.hold⟩, fun asg q => q.low⟩
  obtain ⟨h1, h2, _⟩ := h.least hn hl hok2 hL
  exact ⟨h1, h2⟩
/-- with more of them -/
theorem again_more {n : Nat} {low a c d core core' : List Int} {xs ys : List IneqD} {e f : Int} (hok : OkS (n : Int) low xs) (ha : LeastSolL xs (low0 n low) a) (hr : ∀ z ∈ a, 1 ≤ z ∧ z ≤ 3) (hn : n ≤ 1048576) (hl : xs.length + ys.length ≤ 1048576)
    (h1 : SolveR (n : Int) low (xs ++ ys) c core e) (h2 : SolveR (n : Int) a (ys ++ xs) d core' f) :
    e = f ∧ (e = 0 → c = d ∧ c.length = a.length ∧ ∀ (i : Nat) (h : i < c.length) (h' : i < a.length), a[i] ≤ c[i]) := by
  have hal : a.length = n := by rw [ha.sol.len, low0_len hok]
  by_cases hm : ∀ x ∈ ys, mayL x (n : Int) = true
  · have k1 : OkS (n : Int) low (xs ++ ys) := ⟨hok.n0, hok.len, fun x hx => (List.mem_append.1 hx).elim (hok.may x) (hm x), hok.rng⟩
    have k2 : OkS (n : Int) a (ys ++ xs) := ⟨hok.n0, Or.inr (by omega), fun x hx => (List.mem_append.1 hx).elim (hm x) (hok.may x), hr⟩
    have to : ∀ b, SolvL (xs ++ ys) (low0 n low) b → SolvL (ys ++ xs) (low0 n a) b := fun b hb => by
      rw [low0_self hal]
      have hbx : SolvL xs (low0 n low) b := hb.sub fun x hx => List.mem_append_left _ hx
      refine ⟨by rw [hb.len, low0_len hok, hal], fun v hv => ha.least b hbx v (by rw [low0_len hok]; omega), fun x hx => hb.hold x (List.mem_append.2 (List.mem_append.1 hx).symm)⟩
    have from' : ∀ b, SolvL (ys ++ xs) (low0 n a) b → SolvL (xs ++ ys) (low0 n low) b := fun b hb => by
      rw [low0_self hal] at hb
      refine ⟨by rw [hb.len, low0_len hok, hal], fun v hv => ?_, fun x hx => hb.hold x (List.mem_append.2 (List.mem_append.1 hx).symm)⟩
      rw [low0_len hok] at hv
      have q1 := ha.sol.low v (by rw [low0_len hok]; exact hv)
      have q2 := hb.low v (by omega)
      omega
    rcases h1.ways hn (by simp; omega) k1 with ⟨rfl, c1, _⟩ | ⟨rfl, _, c1⟩
    · rcases h2.ways hn (by simp; omega) k2 with ⟨rfl, d1, _⟩ | ⟨_, _, d1⟩
      · refine ⟨rfl, fun _ => ⟨?_, by rw [c1.sol.len, low0_len hok, hal], fun i h h' => ?_⟩⟩
        · have : LeastSolL (ys ++ xs) (low0 n a) c := ⟨to c c1.sol, fun asg q v hv => by
            rw [low0_self hal] at hv
            exact c1.least asg (from' asg q) v (by rw [low0_len hok]; omega)⟩
          exact this.unique d1
        · have q := (to c c1.sol).low i (by rw [low0_self hal]; exact h')
          rw [low0_self hal, List.getD_eq_getElem?_getD, List.getD_eq_getElem?_getD, List.getElem?_eq_getElem h, List.getElem?_eq_getElem h'] at q
          exact q
      · exact absurd (to c c1.sol) (d1 c)
    · rcases h2.ways hn (by simp; omega) k2 with ⟨_, d1, _⟩ | ⟨rfl, _, d1⟩
      · exact absurd (from' d d1.sol) (c1 d)
      · exact ⟨rfl, fun q => by omega⟩
  · have k1 : ¬ OkS (n : Int) low (xs ++ ys) := fun q => hm fun x hx => q.may x (List.mem_append_right _ hx)
    have k2 : ¬ OkS (n : Int) a (ys ++ xs) := fun q => hm fun x hx => q.may x (List.mem_append_left _ hx)
    obtain ⟨_, _, rfl⟩ := h1.bad (by omega) (by simp; omega) k1
    obtain ⟨_, _, rfl⟩ := h2.bad (by omega) (by simp; omega) k2
    exact ⟨rfl, fun q => by omega⟩

end Go.Proofs.Ythabkpkgocafoaa
