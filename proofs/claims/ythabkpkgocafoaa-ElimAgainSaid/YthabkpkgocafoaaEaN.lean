/- Texts of this claim, laid one behind the other: TermLs, IneqPc, IneqQc. -/
import Derived.Test.YthabkpkgocafoaaTermA
import Derived.Test.YthabkpkgocafoaaTermIs
import Derived.Test.YthabkpkgocafoaaMem
import Derived.Test.YthabkpkgocafoaaShelf
import Derived.Test.YthabkpkgocafoaaEaA
import Derived.Test.YthabkpkgocafoaaApp
import Derived.BigQuiet
import Derived.Deep.QuietTactic
import Derived.Test.YthabkpkgocafoaaOrd
import Derived.Deep.DrawnRows
/- The contract of term.Least, for seats that reach little of package term. -/
namespace Go.Proofs.Ythabkpkgocafoaa
set_option linter.unusedVariables false
set_option linter.unusedSimpArgs false
open Go.RowKit

def CloneI (us : List Int) (n : Nat) (w : World) (e : Ending) (w' : World) : Prop :=
  ∃ A' c', e = .returned (.slice A' n c') ∧ w'.ownsRow w.heap.size 3 1 (.slice A' n c') n (us.map (Value.int .i64)) ∧ Below w.heap.size w w'
theorem cloneI_any (A : Option Addr) (n c : Nat) (us : List Int) (w : World) (B : Nat) (h : RdI .i64 w B A n c us) (hbig : n * 8 ≤ 140737488355328) :
    Calls Try.prog 87 #[.slice A n c] w (CloneI us n w) := by
  have hl := h.len
  have hcut : ∀ v' w', World.ownsRow w' w.heap.size 3 1 v' n (us.map (Value.int .i64)) → Below w.heap.size w w' → CloneI us n w (.returned v') w' := by
    intro v' w' ho hb
    rcases ho.2 with ⟨e0, hn0⟩ | ⟨g, cap, cur, e0, _⟩
    · subst hn0
      obtain rfl := List.eq_nil_of_length_eq_zero hl
      exact ⟨none, 0, by rw [e0], by rw [← e0]; exact ho, hb⟩
    · exact ⟨some ⟨g, 0, none⟩, cap, by rw [e0], by rw [← e0]; exact ho, hb⟩
  rcases Nat.eq_zero_or_pos n with h0 | h0
  · subst h0
    obtain rfl := List.eq_nil_of_length_eq_zero hl
    cases A with
    | none =>
      refine (Try.slices_Clone_int_nil 0 c w).mono ?_
      rintro e w' ⟨rfl, rfl⟩
      exact hcut _ _ (World.ownsRow_nil _ _ _ _) (Below.refl _ _)
    | some a =>
      refine (Try.slices_Clone_int_zero a c w).mono ?_
      rintro e w' ⟨v', rfl, ho, _, hb⟩
      exact hcut _ _ ho hb
  · obtain ⟨b, off, rfl, hb, hcell⟩ := h.at_ h0
    refine (Try.slices_Clone_int b off n c us w (by omega) hbig (fun j hj => by rw [hcell j hj]; simp [List.getD, hj])).mono ?_
    rintro e w' ⟨v', rfl, ho, _, hb⟩
    rw [List.take_of_length_le (by omega)] at ho
    exact hcut _ _ ho hb

theorem least_own_t (v : Value) (t : TermD) (w : World) (B : Nat) (hv : TermV w B v t) (hB : B ≤ w.heap.size) (hbig : t.vars.length * 8 ≤ 140737488355328) :
    Calls Try.prog 80 #[v] w fun e w' => ∃ A n c, e = .returned (.agg #[.bool (leastT t).never, .int .u8 (leastT t).c, .slice A n c]) ∧ RdI .i64 w' w'.heap.size A n c (leastT t).vars ∧ Below w.heap.size w w' ∧ ∀ a, A = some a → w.heap.size ≤ a.block := by
  obtain ⟨A, n, c, rfl, hr⟩ := hv
  obtain ⟨tn, tc, tv⟩ := t
  have hl := hr.len
  have hbel : Below w.heap.size w ((w.alloc (Obj.cells #[.bool tn, .int .u8 tc, .slice A n c] 99)).alloc (Obj.cells #[.bool false, .int .u8 0, .slice none 0 0] 99)) := ((Below.refl _ _).alloc (Nat.le_refl _) _).alloc (by simp) _
  cases tn
  · have hj : leastT ⟨false, tc, tv⟩ = ⟨false, tc, tv⟩ := rfl
    have Hj := Lib.hid hj
    have hq := cloneI_any A n c tv _ _ ((hr.more hB).below hbel) (by have : tv.length = n := hl; have h2 : tv.length * 8 ≤ 140737488355328 := hbig; omega)
    have Hq := Lib.hid hq
    clear hq hj hl hbig
    go_enter Try.func80, Try.ntmps80
    go_wp2_with fail
    refine Hq.out.mono ?_
    rintro e w1 ⟨A', c', rfl, hown, hb1⟩
    simp only [World.size_alloc] at hown hb1
    have hself : Blk w1 w.heap.size 99 #[.bool false, .int .u8 tc, .slice A n c] := by
      show w1.heap[w.heap.size]? = _
      rw [hb1.block _ (by omega), Below.heap_alloc _ _ _ (by simp)]
      exact heap_alloc_new w _
    have hself' : Blk w1 (w.heap.size + 1) 99 #[.bool false, .int .u8 0, .slice none 0 0] := by
      show w1.heap[w.heap.size + 1]? = _
      rw [hb1.block _ (by omega)]
      have := heap_alloc_new (w.alloc (Obj.cells #[.bool false, .int .u8 tc, .slice A n c] 99)) (Obj.cells #[.bool false, .int .u8 0, .slice none 0 0] 99)
      rw [World.size_alloc] at this
      exact this
    have hbel1 : Below w.heap.size w w1 := hbel.trans (hb1.mono (by omega))
    have c0 : w1.cell? ⟨w.heap.size, 0, none⟩ = some (.bool false) := hself.cell 0
    have c1 : w1.cell? ⟨w.heap.size, 1, none⟩ = some (.int .u8 tc) := hself.cell 1
    have c2 : w1.cell? ⟨w.heap.size, 2, none⟩ = some (.slice A n c) := hself.cell 2
    have f2 := hself.frozen 2
    have d0 : w1.cell? ⟨w.heap.size + 1, 0, none⟩ = some (.bool false) := hself'.cell 0
    have d1 : w1.cell? ⟨w.heap.size + 1, 1, none⟩ = some (.int .u8 0) := hself'.cell 1
    have d2 : w1.cell? ⟨w.heap.size + 1, 2, none⟩ = some (.slice none 0 0) := hself'.cell 2
    have g0 := hself'.frozen 0
    have g1 := hself'.frozen 1
    have g2 := hself'.frozen 2
    go_wp2_with fail
    have hs := (hself'.other (g' := w.heap.size) (by omega) 2 (.slice A' n c')).set3 (.bool false) (.int .u8 tc) (.slice A' n c')
    have ho := ownsRow_setCell_below (ownsRow_setCell_below (ownsRow_setCell_below (ownsRow_setCell_below hown (a := ⟨w.heap.size, 2, none⟩) (by show w.heap.size < _; omega) (.slice A' n c')) (a := ⟨w.heap.size + 1, 0, none⟩) (by show w.heap.size + 1 < _; omega) (.bool false)) (a := ⟨w.heap.size + 1, 1, none⟩) (by show w.heap.size + 1 < _; omega) (.int .u8 tc)) (a := ⟨w.heap.size + 1, 2, none⟩) (by show w.heap.size + 1 < _; omega) (.slice A' n c')
    have hb3 := (((hbel1.setCell (p := ⟨w.heap.size, 2, none⟩) (Nat.le_refl _) (.slice A' n c')).setCell (p := ⟨w.heap.size + 1, 0, none⟩) (Nat.le_succ _) (.bool false)).setCell (p := ⟨w.heap.size + 1, 1, none⟩) (Nat.le_succ _) (.int .u8 tc)).setCell (p := ⟨w.heap.size + 1, 2, none⟩) (Nat.le_succ _) (.slice A' n c')
    generalize ((((w1.setCell ⟨w.heap.size, 2, none⟩ (.slice A' n c')).setCell ⟨w.heap.size + 1, 0, none⟩ (.bool false)).setCell ⟨w.heap.size + 1, 1, none⟩ (.int .u8 tc)).setCell ⟨w.heap.size + 1, 2, none⟩ (.slice A' n c')) = W3 at hs ho hb3 ⊢
    have x0 : W3.cell? ⟨w.heap.size + 1, 0, none⟩ = some (.bool false) := hs.cell 0
    have x1 : W3.cell? ⟨w.heap.size + 1, 1, none⟩ = some (.int .u8 tc) := hs.cell 1
    have x2 : W3.cell? ⟨w.heap.size + 1, 2, none⟩ = some (.slice A' n c') := hs.cell 2
    exact bodyPost_ret (v := .agg #[.bool false, .int .u8 tc, .slice A' n c']) (by simp [results, Try.results80, go_sem, x0, x1, x2]) rfl ⟨A', n, c', rfl, RdI.of_own ho, hb3, fun a ha => by
      subst ha
      rcases ho.2 with ⟨e0, _⟩ | ⟨g, cap, cur, e0, hb, _⟩
      · cases e0
      · injection e0 with e1 _ _
        injection e1 with e1
        subst e1
        show w.heap.size ≤ g
        omega⟩
  · have hj : leastT ⟨true, tc, tv⟩ = ⟨false, 2, []⟩ := rfl
    have Hj := Lib.hid hj
    clear hj hl
    go_enter Try.func80, Try.ntmps80
    go_wp2_with fail
    have hb2 : Below w.heap.size w ((w.alloc (Obj.cells #[.bool true, .int .u8 tc, .slice A n c] 99)).alloc (Obj.cells #[.bool false, .int .u8 2, .slice none 0 0] 99)) := ((Below.refl _ _).alloc (Nat.le_refl _) _).alloc (by simp) _
    exact bodyPost_ret (v := .agg #[.bool false, .int .u8 2, .slice none 0 0]) (by simp [results, Try.results80, go_sem]) rfl ⟨none, 0, 0, rfl, RdI.nil, hb2, fun _ h => by cases h⟩
theorem least_any_t (v : Value) (t : TermD) (w : World) (B : Nat) (hv : TermV w B v t) (hB : B ≤ w.heap.size) (hbig : t.vars.length * 8 ≤ 140737488355328) :
    Calls Try.prog 80 #[v] w (RetT (leastT t) w) :=
  (least_own_t v t w B hv hB hbig).mono fun _ _ ⟨A, n, c, h1, h2, h3, _⟩ => ⟨A, n, c, h1, h2, h3⟩

theorem varsB_at (l : List Int) : ∀ n k, k < n → varsB l n = true → varB l k = true
  | 0, k, h, _ => absurd h (by omega)
  | n + 1, k, h, hf => by
    simp only [varsB, Bool.and_eq_true] at hf
    rcases Nat.lt_or_ge k n with h1 | h1
    · exact varsB_at l n k h1 hf.1
    · have : k = n := by omega
      subst this
      exact hf.2
theorem may_pos {t : TermD} (h : mayB t = true) (k : Nat) (hk : k < t.vars.length) : 0 ≤ t.vars[k] := by
  unfold mayB at h
  split at h
  · rw [Bool.and_eq_true, List.isEmpty_iff] at h
    rw [h.2] at hk
    simp at hk
  · rw [Bool.and_eq_true] at h
    have h1 := varsB_at _ _ k hk h.2
    unfold varB at h1
    rw [Bool.and_eq_true, Bool.and_eq_true, decide_eq_true_eq] at h1
    have h2 := h1.1.1
    rw [show t.vars.getD k 0 = t.vars[k] from by simp [List.getD, hk]] at h2
    exact h2

end Go.Proofs.Ythabkpkgocafoaa

/- Laying inequalities below a bound: words for memory, the contract of (*ineq.layer).put. -/
namespace Go.Proofs.Ythabkpkgocafoaa
set_option linter.unusedVariables false
set_option linter.unusedSimpArgs false
open Go.RowKit
attribute [local go_sem ↓] Go.wp_at_zero Go.wp_at_succ

def icells (x : IneqD) : List Value := [.int .i64 x.lv, .int .u8 x.lc, .int .u8 x.c, .int .i64 x.r]
def icellsL : List IneqD → List Value
  | [] => []
  | x :: r => icells x ++ icellsL r
theorem icellsL_append : ∀ (a b : List IneqD), icellsL (a ++ b) = icellsL a ++ icellsL b
  | [], b => rfl
  | x :: a, b => by show icells x ++ icellsL (a ++ b) = (icells x ++ icellsL a) ++ icellsL b; rw [icellsL_append a b, List.append_assoc]
theorem icellsL_one (x : IneqD) : icellsL [x] = icells x := by simp [icellsL]
theorem icellsL_len : ∀ (xs : List IneqD), (icellsL xs).length = xs.length * 4
  | [] => rfl
  | x :: r => by show (icells x ++ icellsL r).length = (r.length + 1) * 4; rw [List.length_append, icellsL_len r]; simp [icells]; omega
theorem icellsL_at : ∀ (xs : List IneqD) (i j : Nat) (h : i < xs.length), j < 4 → (icellsL xs)[i * 4 + j]? = (icells xs[i])[j]?
  | x :: r, 0, j, _, hj => by
    show (icells x ++ icellsL r)[0 * 4 + j]? = _
    rw [List.getElem?_append_left (by simp [icells]; omega)]
    simp
  | x :: r, i + 1, j, h, hj => by
    show (icells x ++ icellsL r)[(i + 1) * 4 + j]? = _
    rw [List.getElem?_append_right (by simp [icells]; omega)]
    rw [show (i + 1) * 4 + j - (icells x).length = i * 4 + j by simp [icells]; omega, icellsL_at r i j (by simpa using h) hj]
    rfl
theorem IneqsV.of_own {w : World} {B : Nat} {A : Option Addr} {n c : Nat} {xs : List IneqD} (h : w.ownsRow B 31 4 (.slice A n c) n (icellsL xs)) : IneqsV w w.heap.size A n c xs := by
  have hl : xs.length = n := by have := h.1; rw [icellsL_len] at this; omega
  rcases h.2 with ⟨e0, hn⟩ | ⟨g, cap, cur, e0, hb, hg, hn, hm, hs, ht⟩
  · injection e0 with e1 e2 e3
    subst e1; subst e2; subst e3
    exact ⟨hl, Nat.le_refl _, Nat.zero_le _, fun h => absurd h (by omega)⟩
  · injection e0 with e1 e2 e3
    subst e1; subst e3
    refine ⟨hl, hn, hm, fun hn0 => ⟨g, 0, rfl, (Array.getElem?_eq_some_iff.1 hg).1, fun i hi => ?_⟩⟩
    have hc : ∀ j, j < 4 → w.cell? ⟨g, 0 + i * 4 + j, none⟩ = (icells xs[i])[j]? := fun j hj => by
      have h0 := icellsL_at xs i j hi hj
      have h1 : j < (icells xs[i]).length := by simpa [icells] using hj
      rw [List.getElem?_eq_getElem h1] at h0 ⊢
      have := h.cells (g := g) rfl _ _ h0
      rw [show (Addr.add ⟨g, 0, none⟩ (i * 4 + j)) = ⟨g, 0 + i * 4 + j, none⟩ from by unfold Addr.add; split <;> simp_all] at this
      exact this
    exact ⟨hc 0 (by omega), hc 1 (by omega), hc 2 (by omega), hc 3 (by omega)⟩

/-- all below block B but block g is as it was -/
structure But (B g : Nat) (w w' : World) : Prop where
  os : w'.os = w.os
  tape : w'.tape = w.tape
  output : w'.output = w.output
  size : w.heap.size ≤ w'.heap.size
  block : ∀ k, k < B → k ≠ g → w'.heap[k]? = w.heap[k]?
section
variable {B g : Nat} {w w' w'' : World}
theorem But.refl (B g : Nat) (w : World) : But B g w w := ⟨rfl, rfl, rfl, Nat.le_refl _, fun _ _ _ => rfl⟩
theorem But.drewN (h : But B g w w') (k : Nat) : But B g w (w'.drewN k) := ⟨h.os, h.tape, h.output, h.size, h.block⟩
theorem But.trans (h : But B g w w') (k : But B g w' w'') : But B g w w'' :=
  ⟨k.os.trans h.os, k.tape.trans h.tape, k.output.trans h.output, Nat.le_trans h.size k.size, fun i hi hg => (k.block i hi hg).trans (h.block i hi hg)⟩
theorem But.of_below (h : Below B w w') : But B g w w' := ⟨h.os, h.tape, h.output, h.size, fun k hk _ => h.block k hk⟩
theorem But.below (h : But B g w w') (hg : g ≤ B) : Below g w w' := ⟨h.os, h.tape, h.output, h.size, fun k hk => h.block k (by omega) (by omega)⟩
theorem But.set (h : But B g w w') (i : Nat) (u : Value) : But B g w (w'.setCell ⟨g, i, none⟩ u) :=
  ⟨h.os, h.tape, h.output, by rw [World.size_setCell]; exact h.size, fun k hk hne => (Below.heap_setCell _ _ _ _ hne).trans (h.block k hk hne)⟩
theorem But.rdI {k : IntKind} {A : Option Addr} {n c : Nat} {us : List Int} (h : But B g w w') (hr : RdI k w B A n c us) (hA : ∀ a, A = some a → a.block ≠ g) : RdI k w' B A n c us := by
  refine ⟨⟨hr.1.1, fun hn => ?_⟩, hr.2⟩
  obtain ⟨b, off, e, hb, hc⟩ := hr.1.2 hn
  exact ⟨b, off, e, hb, fun j u hu => (World.cell?_of_block (h.block b hb (hA _ e))).trans (hc j u hu)⟩
theorem Blk.but {t : TypeId} {cs : Array Value} {s : Nat} (h : Blk w s t cs) (hb : But B g w w') (hs : s < B) (hne : s ≠ g) : Blk w' s t cs := (hb.block s hs hne).trans h
end

/-- the memory of a layer: block g, its inequalities from block B on -/
def LayW (w : World) (g B : Nat) (c r : Int) (xs : List IneqD) : Prop :=
  ∃ A cap, Blk w g 125 #[.int .u8 c, .int .i64 r, .slice A xs.length cap] ∧ w.ownsRow B 31 4 (.slice A xs.length cap) xs.length (icellsL xs) ∧ g < B ∧ B ≤ w.heap.size

theorem LayW.drewN {w : World} {g B : Nat} {c r : Int} {xs : List IneqD} (h : LayW w g B c r xs) (k : Nat) : LayW (w.drewN k) g B c r xs := h
def putsQ (c r mv mc : Int) : Bool := if mc = 0 then !(c == 3 || mv == r) else decide (c < mc)
def putQ (c r mv mc : Int) : List IneqD := if putsQ c r mv mc then [⟨mv, mc, c, r⟩] else []

theorem ineqInfoP : (Try.prog.info? 31).map (fun i => (i.zero, i.size, i.bytes)) = some (some (.agg #[.int .i64 0, .int .u8 0, .int .u8 0, .int .i64 0]), 4, 32) := by kernel_rfl

theorem rd_new4 (w : World) (x : IneqD) (t : TypeId) : Rd (w.alloc (Obj.cells (icells x).toArray t)) (w.heap.size + 1) 4 (some ⟨w.heap.size, 0, none⟩) 1 (icells x) :=
  ⟨rfl, fun _ => ⟨w.heap.size, 0, rfl, Nat.lt_succ_self _, fun j u hu => by rw [Nat.zero_add, World.cell?_alloc_new]; simpa using hu⟩⟩


set_option maxRecDepth 100000 in
set_option maxHeartbeats 1000000 in
theorem put_any (mv mc c r : Int) (g B : Nat) (xs : List IneqD) (w : World) (h : LayW w g B c r xs) (hbig : xs.length ≤ 1099511627776) :
    Calls Try.prog 79 #[.pointer (some ⟨g, 0, none⟩), .agg #[.int .i64 mv, .int .u8 mc]] w fun e w' => e = .returned (.tuple #[]) ∧ LayW w' g B c r (xs ++ putQ c r mv mc) ∧ But B g w w' := by
  obtain ⟨i0, hi0, hz0, hz1, hz2⟩ := info_parts ineqInfoP
  obtain ⟨A, cap, hk, ho, hgB, hB⟩ := h
  have hk0 := hk.alloc (Obj.cells #[.int .i64 mv, .int .u8 mc] 29)
  have ho0 := ho.alloc (Obj.cells #[.int .i64 mv, .int .u8 mc] 29)
  have hbel0 : Below w.heap.size w (w.alloc (Obj.cells #[.int .i64 mv, .int .u8 mc] 29)) := below_box _
  have hwb := blk_new w #[.int .i64 mv, .int .u8 mc] 29
  have hbut : But B g w (w.alloc (Obj.cells #[.int .i64 mv, .int .u8 mc] 29)) := But.of_below ((Below.refl _ _).alloc hB _)
  have x0 : (w.alloc (Obj.cells #[.int .i64 mv, .int .u8 mc] 29)).cell? ⟨g, 0, none⟩ = some (.int .u8 c) := hk0.cell 0
  have x1 : (w.alloc (Obj.cells #[.int .i64 mv, .int .u8 mc] 29)).cell? ⟨g, 1, none⟩ = some (.int .i64 r) := hk0.cell 1
  have x2 : (w.alloc (Obj.cells #[.int .i64 mv, .int .u8 mc] 29)).cell? ⟨g, 2, none⟩ = some (.slice A xs.length cap) := hk0.cell 2
  have y0 : (w.alloc (Obj.cells #[.int .i64 mv, .int .u8 mc] 29)).cell? ⟨w.heap.size, 0, none⟩ = some (.int .i64 mv) := hwb.cell 0
  have y1 : (w.alloc (Obj.cells #[.int .i64 mv, .int .u8 mc] 29)).cell? ⟨w.heap.size, 1, none⟩ = some (.int .u8 mc) := hwb.cell 1
  have hz0 : (w.alloc (Obj.cells #[.int .i64 mv, .int .u8 mc] 29)).heap.size = w.heap.size + 1 := by simp
  have hn1 : (Value.slice A xs.length cap).ownBlock ≠ some g := fun e => by have := (ho.lt _ e).1; omega
  have hn2 : (Value.slice A xs.length cap).ownBlock ≠ some w.heap.size := fun e => by have := (ho.lt _ e).2; omega
  have Hn := Lib.hid hn1
  have Hn2 := Lib.hid hn2
  have Hz := Lib.hid hz0
  clear hk ho hn1 hn2 hz0
  by_cases h0 : mc = 0
  · subst h0
    by_cases h1 : c = 3
    · subst h1
      have HQ : Hid (putQ (3) (r) (mv) (0) = []) := by show _ = _; simp [putQ, putsQ ]
      have HB := Lib.hid hbut
      have HL : Hid (LayW (w.alloc (Obj.cells #[.int .i64 (mv), .int .u8 (0)] 29)) g B (3) (r) xs) := Lib.hid ⟨A, cap, hk0, ho0, hgB, by simp; omega⟩
      clear hbut hk0 ho0
      go_enter Try.func79, Try.ntmps79
      go_wp2_with fail
      go_quiet (fail)
      go_wp2_with fail
      exact bodyPost_ret (v := .tuple #[]) (by simp [results, Try.results79, go_sem]) rfl ⟨rfl, by rw [HQ.out, List.append_nil]; exact HL.out.drewN _, HB.out.drewN _⟩
    · have HQ : Hid (c ≠ 3) := Lib.hid h1
      by_cases h2 : mv = r
      · subst h2
        have d1 : (c == 3) = false := by simp [h1]
        clear h1
        have HQ : Hid (putQ (c) (mv) (mv) (0) = []) := by show _ = _; simp [putQ, putsQ , HQ.out]
        have HB := Lib.hid hbut
        have HL : Hid (LayW (w.alloc (Obj.cells #[.int .i64 (mv), .int .u8 (0)] 29)) g B (c) (mv) xs) := Lib.hid ⟨A, cap, hk0, ho0, hgB, by simp; omega⟩
        clear hbut hk0 ho0
        go_enter Try.func79, Try.ntmps79
        go_wp2_with fail
        go_quiet (fail)
        go_wp2_with fail
        exact bodyPost_ret (v := .tuple #[]) (by simp [results, Try.results79, go_sem]) rfl ⟨rfl, by rw [HQ.out, List.append_nil]; exact HL.out.drewN _, HB.out.drewN _⟩
      · have HR : Hid (mv ≠ r) := Lib.hid h2
        have d1 : (c == 3) = false := by simp [h1]
        have d2 : (mv == r) = false := by simp [h2]
        clear h1 h2
        have HQ : Hid (putQ (c) (r) (mv) (0) = [⟨mv, 0, c, r⟩]) := by show _ = _; simp [putQ, putsQ , HQ.out, HR.out]
        go_enter Try.func79, Try.ntmps79
        go_wp2_with fail
        go_quiet (fail)
        go_wp2_with fail
        generalize hW : w.alloc (Obj.cells #[.int .i64 (mv), .int .u8 (0)] 29) = w0 at hk0 ho0 hbut x0 x1 x2 y0 y1 hwb hbel0 Hz ⊢
        clear hW
        have hgz : g < w0.heap.size := hk0.lt
        have hwz : w.heap.size < w0.heap.size := hwb.lt
        have hne0 : g ≠ w0.heap.size := by omega
        have hne1 : w.heap.size ≠ w0.heap.size := by omega
        refine wp_region_noPanic ?_
        refine wp_region_T (fun w' => w'.cell? ⟨g, 2, none⟩ = some (.slice A xs.length cap) ∧ w'.cell? ⟨g, 0, none⟩ = some (.int .u8 (c)) ∧ w'.cell? ⟨g, 1, none⟩ = some (.int .i64 (r)) ∧ w'.cell? ⟨w.heap.size, 0, none⟩ = some (.int .i64 (mv)) ∧ w'.cell? ⟨w.heap.size, 1, none⟩ = some (.int .u8 (0))) 17 (by kernel_rfl) ⟨x2, x0, x1, y0, y1⟩ (fun hHeld => ?_)
        refine wpAnyT_take (i := 0) (v := ?_) rfl (by kernel_rfl) (by kernel_rfl) (by kernel_rfl) (by kernel_rfl) (fun _ _ _ h => h) (Or.inl ⟨by rfl, ?_⟩) (by assumption) ?_
        rotate_left
        · (intro w hSw; (try dsimp only at hSw); first | (go_simp; done) | (go_simp; with_reducible rfl))
        try simp only [Act.put, List.getElem_toArray, List.getElem_cons_zero, List.getElem_cons_succ, List.setIfInBounds_toArray, List.set_cons_zero, List.set_cons_succ]
        refine wpAnyT_take (i := 1) (v := ?_) rfl (by kernel_rfl) (by kernel_rfl) (by kernel_rfl) (by kernel_rfl) (fun _ _ _ h => h) (Or.inl ⟨by rfl, ?_⟩) (by assumption) ?_
        rotate_left
        · (intro w hSw; (try dsimp only at hSw); first | (go_simp; done) | (go_simp; with_reducible rfl))
        try simp only [Act.put, List.getElem_toArray, List.getElem_cons_zero, List.getElem_cons_succ, List.setIfInBounds_toArray, List.set_cons_zero, List.set_cons_succ]
        refine wpAnyT_take (i := 2) (v := ?_) rfl (by kernel_rfl) (by kernel_rfl) (by kernel_rfl) (by kernel_rfl) (fun _ _ _ h => h) (Or.inl ⟨by rfl, ?_⟩) (by assumption) ?_
        rotate_left
        · (intro w hSw; (try dsimp only at hSw); first | (go_simp; done) | (go_simp; with_reducible rfl))
        try simp only [Act.put, List.getElem_toArray, List.getElem_cons_zero, List.getElem_cons_succ, List.setIfInBounds_toArray, List.set_cons_zero, List.set_cons_succ]
        refine wpAnyT_take (i := 3) (v := ?_) rfl (by kernel_rfl) (by kernel_rfl) (by kernel_rfl) (by kernel_rfl) (fun _ _ _ h => h) (Or.inl ⟨by rfl, ?_⟩) (by assumption) ?_
        rotate_left
        · (intro w hSw; (try dsimp only at hSw); first | (go_simp; done) | (go_simp; with_reducible rfl))
        try simp only [Act.put, List.getElem_toArray, List.getElem_cons_zero, List.getElem_cons_succ, List.setIfInBounds_toArray, List.set_cons_zero, List.set_cons_succ]
        refine wpAnyT_take (i := 4) (v := ?_) rfl (by kernel_rfl) (by kernel_rfl) (by kernel_rfl) (by kernel_rfl) (fun _ _ _ h => h) (Or.inl ⟨by rfl, ?_⟩) (by assumption) ?_
        rotate_left
        · (intro w hSw; (try dsimp only at hSw); first | (go_simp; done) | (go_simp; with_reducible rfl))
        try simp only [Act.put, List.getElem_toArray, List.getElem_cons_zero, List.getElem_cons_succ, List.setIfInBounds_toArray, List.set_cons_zero, List.set_cons_succ]
        refine wpAnyT_take (i := 5) (v := ?_) rfl (by kernel_rfl) (by kernel_rfl) (by kernel_rfl) (by kernel_rfl) (fun _ _ _ h => h) (Or.inl ⟨by rfl, ?_⟩) (by assumption) ?_
        rotate_left
        · (intro w hSw; (try dsimp only at hSw); first | (go_simp; done) | (go_simp; with_reducible rfl))
        try simp only [Act.put, List.getElem_toArray, List.getElem_cons_zero, List.getElem_cons_succ, List.setIfInBounds_toArray, List.set_cons_zero, List.set_cons_succ]
        refine wpAnyT_take (i := 6) (v := ?_) rfl (by kernel_rfl) (by kernel_rfl) (by kernel_rfl) (by kernel_rfl) (fun _ _ _ h => h) (Or.inl ⟨by rfl, ?_⟩) (by assumption) ?_
        rotate_left
        · (intro w hSw; (try dsimp only at hSw); first | (go_simp; done) | (go_simp; with_reducible rfl))
        try simp only [Act.put, List.getElem_toArray, List.getElem_cons_zero, List.getElem_cons_succ, List.setIfInBounds_toArray, List.set_cons_zero, List.set_cons_succ]
        refine wpAnyT_take (i := 7) (v := ?_) rfl (by kernel_rfl) (by kernel_rfl) (by kernel_rfl) (by kernel_rfl) (fun _ _ _ h => h) (Or.inl ⟨by rfl, ?_⟩) (by assumption) ?_
        rotate_left
        · (intro w hSw; (try dsimp only at hSw); first | (go_simp; done) | (go_simp; with_reducible rfl))
        try simp only [Act.put, List.getElem_toArray, List.getElem_cons_zero, List.getElem_cons_succ, List.setIfInBounds_toArray, List.set_cons_zero, List.set_cons_succ]
        refine wpAnyT_take (i := 8) (v := ?_) rfl (by kernel_rfl) (by kernel_rfl) (by kernel_rfl) (by kernel_rfl) (fun _ _ _ h => h) (Or.inl ⟨by rfl, ?_⟩) (by assumption) ?_
        rotate_left
        · (intro w hSw; (try dsimp only at hSw); first | (go_simp; done) | (go_simp; with_reducible rfl))
        try simp only [Act.put, List.getElem_toArray, List.getElem_cons_zero, List.getElem_cons_succ, List.setIfInBounds_toArray, List.set_cons_zero, List.set_cons_succ]
        refine wpAnyT_take (i := 9) (v := ?_) rfl (by kernel_rfl) (by kernel_rfl) (by kernel_rfl) (by kernel_rfl) (fun _ _ _ h => h) (Or.inl ⟨by rfl, ?_⟩) (by assumption) ?_
        rotate_left
        · (intro w hSw; (try dsimp only at hSw); first | (go_simp; done) | (go_simp; with_reducible rfl))
        try simp only [Act.put, List.getElem_toArray, List.getElem_cons_zero, List.getElem_cons_succ, List.setIfInBounds_toArray, List.set_cons_zero, List.set_cons_succ]
        refine wpAnyT_take (i := 10) (v := ?_) rfl (by kernel_rfl) (by kernel_rfl) (by kernel_rfl) (by kernel_rfl) (fun _ _ _ h => h) (Or.inl ⟨by rfl, ?_⟩) (by assumption) ?_
        rotate_left
        · (intro w hSw; (try dsimp only at hSw); first | (go_simp; done) | (go_simp; with_reducible rfl))
        try simp only [Act.put, List.getElem_toArray, List.getElem_cons_zero, List.getElem_cons_succ, List.setIfInBounds_toArray, List.set_cons_zero, List.set_cons_succ]
        refine wpAnyT_take (i := 11) (v := ?_) rfl (by kernel_rfl) (by kernel_rfl) (by kernel_rfl) (by kernel_rfl) (fun _ _ _ h => h) (Or.inl ⟨by rfl, ?_⟩) (by assumption) ?_
        rotate_left
        · (intro w hSw; (try dsimp only at hSw); first | (go_simp; done) | (go_simp; with_reducible rfl))
        try simp only [Act.put, List.getElem_toArray, List.getElem_cons_zero, List.getElem_cons_succ, List.setIfInBounds_toArray, List.set_cons_zero, List.set_cons_succ]
        refine wpAnyT_take (i := 12) (v := ?_) rfl (by kernel_rfl) (by kernel_rfl) (by kernel_rfl) (by kernel_rfl) (fun _ _ _ h => h) (Or.inl ⟨by rfl, ?_⟩) (by assumption) ?_
        rotate_left
        · (intro w hSw; (try dsimp only at hSw); first | (go_simp; done) | (go_simp; with_reducible rfl))
        try simp only [Act.put, List.getElem_toArray, List.getElem_cons_zero, List.getElem_cons_succ, List.setIfInBounds_toArray, List.set_cons_zero, List.set_cons_succ]
        refine wpAnyT_take (i := 13) (v := ?_) rfl (by kernel_rfl) (by kernel_rfl) (by kernel_rfl) (by kernel_rfl) (fun _ _ _ h => h) (Or.inl ⟨by rfl, ?_⟩) (by assumption) ?_
        rotate_left
        · (intro w hSw; (try dsimp only at hSw); first | (go_simp; done) | (go_simp; with_reducible rfl))
        try simp only [Act.put, List.getElem_toArray, List.getElem_cons_zero, List.getElem_cons_succ, List.setIfInBounds_toArray, List.set_cons_zero, List.set_cons_succ]
        refine wpAnyT_take (i := 14) (v := ?_) rfl (by kernel_rfl) (by kernel_rfl) (by kernel_rfl) (by kernel_rfl) (fun _ _ _ h => h) (Or.inl ⟨by rfl, ?_⟩) (by assumption) ?_
        rotate_left
        · (intro w hSw; (try dsimp only at hSw); first | (go_simp; done) | (go_simp; with_reducible rfl))
        try simp only [Act.put, List.getElem_toArray, List.getElem_cons_zero, List.getElem_cons_succ, List.setIfInBounds_toArray, List.set_cons_zero, List.set_cons_succ]
        refine wpAnyT_step (i := 15) (by kernel_rfl) rfl (fun K hK => ?_)
        go_simp
        refine hK.out _ _ ⟨(World.cell?_alloc_lt _ _ ⟨g, 2, none⟩ hgz).trans x2, (World.cell?_alloc_lt _ _ ⟨g, 0, none⟩ hgz).trans x0, (World.cell?_alloc_lt _ _ ⟨g, 1, none⟩ hgz).trans x1, (World.cell?_alloc_lt _ _ ⟨w.heap.size, 0, none⟩ hwz).trans y0, (World.cell?_alloc_lt _ _ ⟨w.heap.size, 1, none⟩ hwz).trans y1⟩ ?_
        clear hK K
        try simp only [Act.put, List.getElem_toArray, List.getElem_cons_zero, List.getElem_cons_succ, List.setIfInBounds_toArray, List.set_cons_zero, List.set_cons_succ]
        refine wpAnyT_step (i := 16) (by kernel_rfl) rfl (fun K hK => ?_)
        (refine step_append_rd _ (by rfl) (.tmp 41) (.tmp 52) 35 (by rfl) B 31 i0 _ 4 32 Try.underlying35 hi0 hz0 hz1 hz2 rfl (by omega) (.slice A xs.length cap) xs.length (icellsL xs) (by rfl) (ho0.alloc _) _ (some ⟨w0.heap.size, 0, none⟩) 1 1 (icells ⟨mv, 0, c, r⟩) (by rfl) (rd_new4 _ _ _) (by intro u hu; simp [icells] at hu; rcases hu with rfl | rfl | rfl | rfl <;> rfl) (by unfold maxLen; omega) (by omega) (by have := Hz.out; simp; omega) ?_; intro v4 w4 ho4 hg4 hat4; obtain ⟨A4, c4, rfl⟩ := ownsRow_form ho4; have hk4 := Blk.grown (Blk.alloc (w := w0.drewN (nq + 1)) hk0 _) hg4 (Ne.symm Hn.out); have hwb4 := Blk.grown (Blk.alloc (w := w0.drewN (nq + 1)) hwb _) hg4 (Ne.symm Hn2.out))
        refine hK.out _ _ ⟨hk4.cell 2, hk4.cell 0, hk4.cell 1, hwb4.cell 0, hwb4.cell 1⟩ ?_
        clear hK K
        try simp only [Act.put, List.getElem_toArray, List.getElem_cons_zero, List.getElem_cons_succ, List.setIfInBounds_toArray, List.set_cons_zero, List.set_cons_succ]
        have g2 : w4.cell? ⟨g, 2, none⟩ = some (.slice A xs.length cap) := hk4.cell 2
        have f2 : w4.frozen? ⟨g, 2, none⟩ = false := hk4.frozen 2
        refine wpAnyT_seq 17 (by omega) (by rfl) (by kernel_rfl) ?_
        simp only [List.drop_succ_cons, List.drop_zero]
        go_wp2_with fail
        refine NoPanic.normal ?_
        go_wp2_with fail
        all_goals
          have hlen : (xs ++ putQ (c) (r) (mv) (0)).length = xs.length + 1 := by rw [HQ.out]; simp
          have hbut4 : But B g w w4 := hbut.trans ⟨hg4.os, hg4.tape, hg4.output, Nat.le_trans (by simp) hg4.size, fun k hk hne => (hg4.block k (by have := Hz.out; simp; omega) (fun e => by have := (ho0.lt _ e.symm).1; omega)).trans (Below.heap_alloc _ _ _ (by have := Hz.out; simp; omega))⟩
          have hfin : LayW (w4.setCell ⟨g, 2, none⟩ (.slice A4 (xs.length + 1) c4)) g B (c) (r) (xs ++ putQ (c) (r) (mv) (0)) := by
            refine ⟨A4, c4, ?_, ?_, hgB, by rw [World.size_setCell]; have := hbut4.size; omega⟩
            · rw [hlen]; exact hk4.set_ 2 _
            · rw [hlen, HQ.out, icellsL_append, icellsL_one]
              exact ownsRow_setCell_below ho4 (by show g < B; exact hgB) _
          have hb5 := hbut4.set 2 (.slice A4 (xs.length + 1) c4)
          clear hlen hbut4
          go_end0
          exact ⟨rfl, hfin, hb5⟩
  · have H0 : Hid (mc ≠ 0) := Lib.hid h0
    have hz : (mc != 0) = true := by simp [h0]
    have hz' : (mc == 0) = false := by simp [h0]
    clear h0
    by_cases h1 : mc ≤ c
    · have h3 : ¬ c < mc := by omega
      have d3 : decide (mc ≤ c) = true := by simpa using h1
      have HQ : Hid (putQ (c) (r) (mv) (mc) = []) := by show _ = _; simp [putQ, putsQ , H0.out, h3]
      have HB := Lib.hid hbut
      have HL : Hid (LayW (w.alloc (Obj.cells #[.int .i64 (mv), .int .u8 (mc)] 29)) g B (c) (r) xs) := Lib.hid ⟨A, cap, hk0, ho0, hgB, by simp; omega⟩
      clear hbut hk0 ho0
      go_enter Try.func79, Try.ntmps79
      go_wp2_with fail
      go_quiet (fail)
      go_wp2_with fail
      exact bodyPost_ret (v := .tuple #[]) (by simp [results, Try.results79, go_sem]) rfl ⟨rfl, by rw [HQ.out, List.append_nil]; exact HL.out.drewN _, HB.out.drewN _⟩
    · have h3 : c < mc := by omega
      have d3 : decide (mc ≤ c) = false := by simp; omega
      have HQ : Hid (putQ (c) (r) (mv) (mc) = [⟨mv, mc, c, r⟩]) := by show _ = _; simp [putQ, putsQ , H0.out, h3]
      go_enter Try.func79, Try.ntmps79
      go_wp2_with fail
      go_quiet (fail)
      go_wp2_with fail
      generalize hW : w.alloc (Obj.cells #[.int .i64 (mv), .int .u8 (mc)] 29) = w0 at hk0 ho0 hbut x0 x1 x2 y0 y1 hwb hbel0 Hz ⊢
      clear hW
      have hgz : g < w0.heap.size := hk0.lt
      have hwz : w.heap.size < w0.heap.size := hwb.lt
      have hne0 : g ≠ w0.heap.size := by omega
      have hne1 : w.heap.size ≠ w0.heap.size := by omega
      refine wp_region_noPanic ?_
      refine wp_region_T (fun w' => w'.cell? ⟨g, 2, none⟩ = some (.slice A xs.length cap) ∧ w'.cell? ⟨g, 0, none⟩ = some (.int .u8 (c)) ∧ w'.cell? ⟨g, 1, none⟩ = some (.int .i64 (r)) ∧ w'.cell? ⟨w.heap.size, 0, none⟩ = some (.int .i64 (mv)) ∧ w'.cell? ⟨w.heap.size, 1, none⟩ = some (.int .u8 (mc))) 17 (by kernel_rfl) ⟨x2, x0, x1, y0, y1⟩ (fun hHeld => ?_)
      refine wpAnyT_take (i := 0) (v := ?_) rfl (by kernel_rfl) (by kernel_rfl) (by kernel_rfl) (by kernel_rfl) (fun _ _ _ h => h) (Or.inl ⟨by rfl, ?_⟩) (by assumption) ?_
      rotate_left
      · (intro w hSw; (try dsimp only at hSw); first | (go_simp; done) | (go_simp; with_reducible rfl))
      try simp only [Act.put, List.getElem_toArray, List.getElem_cons_zero, List.getElem_cons_succ, List.setIfInBounds_toArray, List.set_cons_zero, List.set_cons_succ]
      refine wpAnyT_take (i := 1) (v := ?_) rfl (by kernel_rfl) (by kernel_rfl) (by kernel_rfl) (by kernel_rfl) (fun _ _ _ h => h) (Or.inl ⟨by rfl, ?_⟩) (by assumption) ?_
      rotate_left
      · (intro w hSw; (try dsimp only at hSw); first | (go_simp; done) | (go_simp; with_reducible rfl))
      try simp only [Act.put, List.getElem_toArray, List.getElem_cons_zero, List.getElem_cons_succ, List.setIfInBounds_toArray, List.set_cons_zero, List.set_cons_succ]
      refine wpAnyT_take (i := 2) (v := ?_) rfl (by kernel_rfl) (by kernel_rfl) (by kernel_rfl) (by kernel_rfl) (fun _ _ _ h => h) (Or.inl ⟨by rfl, ?_⟩) (by assumption) ?_
      rotate_left
      · (intro w hSw; (try dsimp only at hSw); first | (go_simp; done) | (go_simp; with_reducible rfl))
      try simp only [Act.put, List.getElem_toArray, List.getElem_cons_zero, List.getElem_cons_succ, List.setIfInBounds_toArray, List.set_cons_zero, List.set_cons_succ]
      refine wpAnyT_take (i := 3) (v := ?_) rfl (by kernel_rfl) (by kernel_rfl) (by kernel_rfl) (by kernel_rfl) (fun _ _ _ h => h) (Or.inl ⟨by rfl, ?_⟩) (by assumption) ?_
      rotate_left
      · (intro w hSw; (try dsimp only at hSw); first | (go_simp; done) | (go_simp; with_reducible rfl))
      try simp only [Act.put, List.getElem_toArray, List.getElem_cons_zero, List.getElem_cons_succ, List.setIfInBounds_toArray, List.set_cons_zero, List.set_cons_succ]
      refine wpAnyT_take (i := 4) (v := ?_) rfl (by kernel_rfl) (by kernel_rfl) (by kernel_rfl) (by kernel_rfl) (fun _ _ _ h => h) (Or.inl ⟨by rfl, ?_⟩) (by assumption) ?_
      rotate_left
      · (intro w hSw; (try dsimp only at hSw); first | (go_simp; done) | (go_simp; with_reducible rfl))
      try simp only [Act.put, List.getElem_toArray, List.getElem_cons_zero, List.getElem_cons_succ, List.setIfInBounds_toArray, List.set_cons_zero, List.set_cons_succ]
      refine wpAnyT_take (i := 5) (v := ?_) rfl (by kernel_rfl) (by kernel_rfl) (by kernel_rfl) (by kernel_rfl) (fun _ _ _ h => h) (Or.inl ⟨by rfl, ?_⟩) (by assumption) ?_
      rotate_left
      · (intro w hSw; (try dsimp only at hSw); first | (go_simp; done) | (go_simp; with_reducible rfl))
      try simp only [Act.put, List.getElem_toArray, List.getElem_cons_zero, List.getElem_cons_succ, List.setIfInBounds_toArray, List.set_cons_zero, List.set_cons_succ]
      refine wpAnyT_take (i := 6) (v := ?_) rfl (by kernel_rfl) (by kernel_rfl) (by kernel_rfl) (by kernel_rfl) (fun _ _ _ h => h) (Or.inl ⟨by rfl, ?_⟩) (by assumption) ?_
      rotate_left
      · (intro w hSw; (try dsimp only at hSw); first | (go_simp; done) | (go_simp; with_reducible rfl))
      try simp only [Act.put, List.getElem_toArray, List.getElem_cons_zero, List.getElem_cons_succ, List.setIfInBounds_toArray, List.set_cons_zero, List.set_cons_succ]
      refine wpAnyT_take (i := 7) (v := ?_) rfl (by kernel_rfl) (by kernel_rfl) (by kernel_rfl) (by kernel_rfl) (fun _ _ _ h => h) (Or.inl ⟨by rfl, ?_⟩) (by assumption) ?_
      rotate_left
      · (intro w hSw; (try dsimp only at hSw); first | (go_simp; done) | (go_simp; with_reducible rfl))
      try simp only [Act.put, List.getElem_toArray, List.getElem_cons_zero, List.getElem_cons_succ, List.setIfInBounds_toArray, List.set_cons_zero, List.set_cons_succ]
      refine wpAnyT_take (i := 8) (v := ?_) rfl (by kernel_rfl) (by kernel_rfl) (by kernel_rfl) (by kernel_rfl) (fun _ _ _ h => h) (Or.inl ⟨by rfl, ?_⟩) (by assumption) ?_
      rotate_left
      · (intro w hSw; (try dsimp only at hSw); first | (go_simp; done) | (go_simp; with_reducible rfl))
      try simp only [Act.put, List.getElem_toArray, List.getElem_cons_zero, List.getElem_cons_succ, List.setIfInBounds_toArray, List.set_cons_zero, List.set_cons_succ]
      refine wpAnyT_take (i := 9) (v := ?_) rfl (by kernel_rfl) (by kernel_rfl) (by kernel_rfl) (by kernel_rfl) (fun _ _ _ h => h) (Or.inl ⟨by rfl, ?_⟩) (by assumption) ?_
      rotate_left
      · (intro w hSw; (try dsimp only at hSw); first | (go_simp; done) | (go_simp; with_reducible rfl))
      try simp only [Act.put, List.getElem_toArray, List.getElem_cons_zero, List.getElem_cons_succ, List.setIfInBounds_toArray, List.set_cons_zero, List.set_cons_succ]
      refine wpAnyT_take (i := 10) (v := ?_) rfl (by kernel_rfl) (by kernel_rfl) (by kernel_rfl) (by kernel_rfl) (fun _ _ _ h => h) (Or.inl ⟨by rfl, ?_⟩) (by assumption) ?_
      rotate_left
      · (intro w hSw; (try dsimp only at hSw); first | (go_simp; done) | (go_simp; with_reducible rfl))
      try simp only [Act.put, List.getElem_toArray, List.getElem_cons_zero, List.getElem_cons_succ, List.setIfInBounds_toArray, List.set_cons_zero, List.set_cons_succ]
      refine wpAnyT_take (i := 11) (v := ?_) rfl (by kernel_rfl) (by kernel_rfl) (by kernel_rfl) (by kernel_rfl) (fun _ _ _ h => h) (Or.inl ⟨by rfl, ?_⟩) (by assumption) ?_
      rotate_left
      · (intro w hSw; (try dsimp only at hSw); first | (go_simp; done) | (go_simp; with_reducible rfl))
      try simp only [Act.put, List.getElem_toArray, List.getElem_cons_zero, List.getElem_cons_succ, List.setIfInBounds_toArray, List.set_cons_zero, List.set_cons_succ]
      refine wpAnyT_take (i := 12) (v := ?_) rfl (by kernel_rfl) (by kernel_rfl) (by kernel_rfl) (by kernel_rfl) (fun _ _ _ h => h) (Or.inl ⟨by rfl, ?_⟩) (by assumption) ?_
      rotate_left
      · (intro w hSw; (try dsimp only at hSw); first | (go_simp; done) | (go_simp; with_reducible rfl))
      try simp only [Act.put, List.getElem_toArray, List.getElem_cons_zero, List.getElem_cons_succ, List.setIfInBounds_toArray, List.set_cons_zero, List.set_cons_succ]
      refine wpAnyT_take (i := 13) (v := ?_) rfl (by kernel_rfl) (by kernel_rfl) (by kernel_rfl) (by kernel_rfl) (fun _ _ _ h => h) (Or.inl ⟨by rfl, ?_⟩) (by assumption) ?_
      rotate_left
      · (intro w hSw; (try dsimp only at hSw); first | (go_simp; done) | (go_simp; with_reducible rfl))
      try simp only [Act.put, List.getElem_toArray, List.getElem_cons_zero, List.getElem_cons_succ, List.setIfInBounds_toArray, List.set_cons_zero, List.set_cons_succ]
      refine wpAnyT_take (i := 14) (v := ?_) rfl (by kernel_rfl) (by kernel_rfl) (by kernel_rfl) (by kernel_rfl) (fun _ _ _ h => h) (Or.inl ⟨by rfl, ?_⟩) (by assumption) ?_
      rotate_left
      · (intro w hSw; (try dsimp only at hSw); first | (go_simp; done) | (go_simp; with_reducible rfl))
      try simp only [Act.put, List.getElem_toArray, List.getElem_cons_zero, List.getElem_cons_succ, List.setIfInBounds_toArray, List.set_cons_zero, List.set_cons_succ]
      refine wpAnyT_step (i := 15) (by kernel_rfl) rfl (fun K hK => ?_)
      go_simp
      refine hK.out _ _ ⟨(World.cell?_alloc_lt _ _ ⟨g, 2, none⟩ hgz).trans x2, (World.cell?_alloc_lt _ _ ⟨g, 0, none⟩ hgz).trans x0, (World.cell?_alloc_lt _ _ ⟨g, 1, none⟩ hgz).trans x1, (World.cell?_alloc_lt _ _ ⟨w.heap.size, 0, none⟩ hwz).trans y0, (World.cell?_alloc_lt _ _ ⟨w.heap.size, 1, none⟩ hwz).trans y1⟩ ?_
      clear hK K
      try simp only [Act.put, List.getElem_toArray, List.getElem_cons_zero, List.getElem_cons_succ, List.setIfInBounds_toArray, List.set_cons_zero, List.set_cons_succ]
      refine wpAnyT_step (i := 16) (by kernel_rfl) rfl (fun K hK => ?_)
      (refine step_append_rd _ (by rfl) (.tmp 41) (.tmp 52) 35 (by rfl) B 31 i0 _ 4 32 Try.underlying35 hi0 hz0 hz1 hz2 rfl (by omega) (.slice A xs.length cap) xs.length (icellsL xs) (by rfl) (ho0.alloc _) _ (some ⟨w0.heap.size, 0, none⟩) 1 1 (icells ⟨mv, mc, c, r⟩) (by rfl) (rd_new4 _ _ _) (by intro u hu; simp [icells] at hu; rcases hu with rfl | rfl | rfl | rfl <;> rfl) (by unfold maxLen; omega) (by omega) (by have := Hz.out; simp; omega) ?_; intro v4 w4 ho4 hg4 hat4; obtain ⟨A4, c4, rfl⟩ := ownsRow_form ho4; have hk4 := Blk.grown (Blk.alloc (w := w0.drewN (nq + 1)) hk0 _) hg4 (Ne.symm Hn.out); have hwb4 := Blk.grown (Blk.alloc (w := w0.drewN (nq + 1)) hwb _) hg4 (Ne.symm Hn2.out))
      refine hK.out _ _ ⟨hk4.cell 2, hk4.cell 0, hk4.cell 1, hwb4.cell 0, hwb4.cell 1⟩ ?_
      clear hK K
      try simp only [Act.put, List.getElem_toArray, List.getElem_cons_zero, List.getElem_cons_succ, List.setIfInBounds_toArray, List.set_cons_zero, List.set_cons_succ]
      have g2 : w4.cell? ⟨g, 2, none⟩ = some (.slice A xs.length cap) := hk4.cell 2
      have f2 : w4.frozen? ⟨g, 2, none⟩ = false := hk4.frozen 2
      refine wpAnyT_seq 17 (by omega) (by rfl) (by kernel_rfl) ?_
      simp only [List.drop_succ_cons, List.drop_zero]
      go_wp2_with fail
      refine NoPanic.normal ?_
      go_wp2_with fail
      all_goals
        have hlen : (xs ++ putQ (c) (r) (mv) (mc)).length = xs.length + 1 := by rw [HQ.out]; simp
        have hbut4 : But B g w w4 := hbut.trans ⟨hg4.os, hg4.tape, hg4.output, Nat.le_trans (by simp) hg4.size, fun k hk hne => (hg4.block k (by have := Hz.out; simp; omega) (fun e => by have := (ho0.lt _ e.symm).1; omega)).trans (Below.heap_alloc _ _ _ (by have := Hz.out; simp; omega))⟩
        have hfin : LayW (w4.setCell ⟨g, 2, none⟩ (.slice A4 (xs.length + 1) c4)) g B (c) (r) (xs ++ putQ (c) (r) (mv) (mc)) := by
          refine ⟨A4, c4, ?_, ?_, hgB, by rw [World.size_setCell]; have := hbut4.size; omega⟩
          · rw [hlen]; exact hk4.set_ 2 _
          · rw [hlen, HQ.out, icellsL_append, icellsL_one]
            exact ownsRow_setCell_below ho4 (by show g < B; exact hgB) _
        have hb5 := hbut4.set 2 (.slice A4 (xs.length + 1) c4)
        clear hlen hbut4
        go_end0
        exact ⟨rfl, hfin, hb5⟩

end Go.Proofs.Ythabkpkgocafoaa

/- The contract of ineq.Fits. -/
namespace Go.Proofs.Ythabkpkgocafoaa
set_option linter.unusedVariables false
set_option linter.unusedSimpArgs false
open Go.RowKit

def putsV (c r : Int) (vars : List Int) : List IneqD := vars.flatMap fun v => putQ c r v 0
def fitsL (c r top : Int) (vars : List Int) : List IneqD := putQ c r 0 top ++ putsV c r vars
def fitsQ (t : TermD) (g mv mc : Int) : List IneqD := fitsL (max g mc) (if mc = 0 then mv else -1) (leastT t).c (leastT t).vars
def fitsB (t : TermD) (g mv mc : Int) : Bool := mayB t && isB mc mv && decide (1 ≤ g) && decide (g ≤ 3)
theorem putQ_len (c r mv mc : Int) : (putQ c r mv mc).length ≤ 1 := by unfold putQ; split <;> simp
theorem putsV_len (c r : Int) : ∀ (vars : List Int), (putsV c r vars).length ≤ vars.length
  | [] => by simp [putsV]
  | v :: l => by
    have h1 := putQ_len c r v 0
    have h2 := putsV_len c r l
    unfold putsV at h2 ⊢
    rw [List.flatMap_cons, List.length_append, List.length_cons]
    omega
theorem putsV_snoc (c r : Int) (l : List Int) (v : Int) : putsV c r (l ++ [v]) = putsV c r l ++ putQ c r v 0 := by
  unfold putsV
  rw [List.flatMap_append]
  simp

/-- the call returns inequalities and an error -/
def RetQE (xs : List IneqD) (x : Int) (w : World) (e : Ending) (w' : World) : Prop :=
  ∃ A n c, e = .returned (.tuple #[.slice A n c, .int .i64 x]) ∧ IneqsV w' w'.heap.size A n c xs ∧ Below w.heap.size w w'

/-- t and m in their boxes -/
def F0 (t : TermD) (A : Option Addr) (n cp : Nat) (mv mc : Int) (w : World) : World := (w.alloc (Obj.cells #[.bool t.never, .int .u8 t.c, .slice A n cp] 99)).alloc (Obj.cells #[.int .i64 mv, .int .u8 mc] 29)
theorem F0_facts (t : TermD) (A : Option Addr) (n cp : Nat) (mv mc : Int) (w : World) :
    Below w.heap.size w (F0 t A n cp mv mc w) ∧ (F0 t A n cp mv mc w).heap.size = w.heap.size + 2 ∧ Blk (F0 t A n cp mv mc w) w.heap.size 99 #[.bool t.never, .int .u8 t.c, .slice A n cp] ∧ Blk (F0 t A n cp mv mc w) (w.heap.size + 1) 29 #[.int .i64 mv, .int .u8 mc] := by
  unfold F0
  refine ⟨((Below.refl _ _).alloc (Nat.le_refl _) _).alloc (by simp) _, by simp, (blk_new _ _ _).alloc _, ?_⟩
  have := blk_new (w.alloc (Obj.cells #[.bool t.never, .int .u8 t.c, .slice A n cp] 99)) #[.int .i64 mv, .int .u8 mc] 29
  rw [World.size_alloc] at this
  exact this

theorem may_at (v : Value) (t : TermD) (x : Int) (hx : mayE t = x) (w : World) (B : Nat) (hv : TermV w B v t) (hB : B ≤ w.heap.size) :
    Calls Try.prog 78 #[v] w fun e w' => e = .returned (.int .i64 x) ∧ Below w.heap.size w w' := by
  rw [← hx]; exact may_any v t w B hv hB

theorem IneqsV.nilR {w : World} {B : Nat} : IneqsV w B none 0 0 [] := IneqsV.nil

set_option maxRecDepth 100000 in
theorem fits_no (tv : Value) (t : TermD) (g mv mc : Int) (w : World) (B : Nat) (hv : TermV w B tv t) (hB : B ≤ w.heap.size) (h : fitsB t g mv mc = false) :
    Calls Try.prog 62 #[tv, .int .u8 g, .agg #[.int .i64 mv, .int .u8 mc]] w (RetQE [] 2 w) := by
  cases hm : mayB t
  · have HM := Lib.hid (mayE_no hm)
    clear h hm
    obtain ⟨A, n, cp, rfl, hr⟩ := hv
    obtain ⟨hb0, hs0, ht0, hm0⟩ := F0_facts t A n cp mv mc w
    have hr0 := (hr.more hB).below hb0
    have tx : ∀ w', Below (w.heap.size + 2) (F0 t A n cp mv mc w) w' → w'.cell? ⟨w.heap.size, 0, none⟩ = some (.bool t.never) ∧ w'.cell? ⟨w.heap.size, 1, none⟩ = some (.int .u8 t.c) ∧ w'.cell? ⟨w.heap.size, 2, none⟩ = some (.slice A n cp) ∧ w'.cell? ⟨w.heap.size + 1, 0, none⟩ = some (.int .i64 mv) ∧ w'.cell? ⟨w.heap.size + 1, 1, none⟩ = some (.int .u8 mc) := fun w' hb => ⟨(ht0.below hb (by omega)).cell 0, (ht0.below hb (by omega)).cell 1, (ht0.below hb (by omega)).cell 2, (hm0.below hb (by omega)).cell 0, (hm0.below hb (by omega)).cell 1⟩
    have Tx := Lib.hid tx
    obtain ⟨x0, x1, x2, -, -⟩ := tx _ (Below.refl _ _)
    clear tx
    go_enter Try.func62, Try.ntmps62
    go_wp2_with fail
    refine (may_at (.agg #[.bool t.never, .int .u8 t.c, .slice A n cp]) t _ HM.out (F0 t A n cp mv mc w) w.heap.size ⟨A, n, cp, rfl, hr0⟩ (by omega)).mono ?_; rintro e w1 ⟨rfl, hb1⟩
    clear x0 x1 x2
    generalize hF : F0 t A n cp mv mc w = w0 at hb0 hs0 ht0 hm0 hr0 Tx hb1 ⊢
    clear hF
    have hk1 := hb1.mono (show w.heap.size + 2 ≤ w0.heap.size by omega)
    have hw1 := hb0.trans (hb1.mono (by omega))
    go_wp2_with fail
    go_ret2
    exact ⟨none, 0, 0, rfl, IneqsV.nil, hw1⟩
  · have HM := Lib.hid (mayE_yes hm)
    cases hi : isB mc mv
    · have HI := Lib.hid (isE_no hi)
      clear h hm hi
      obtain ⟨A, n, cp, rfl, hr⟩ := hv
      obtain ⟨hb0, hs0, ht0, hm0⟩ := F0_facts t A n cp mv mc w
      have hr0 := (hr.more hB).below hb0
      have tx : ∀ w', Below (w.heap.size + 2) (F0 t A n cp mv mc w) w' → w'.cell? ⟨w.heap.size, 0, none⟩ = some (.bool t.never) ∧ w'.cell? ⟨w.heap.size, 1, none⟩ = some (.int .u8 t.c) ∧ w'.cell? ⟨w.heap.size, 2, none⟩ = some (.slice A n cp) ∧ w'.cell? ⟨w.heap.size + 1, 0, none⟩ = some (.int .i64 mv) ∧ w'.cell? ⟨w.heap.size + 1, 1, none⟩ = some (.int .u8 mc) := fun w' hb => ⟨(ht0.below hb (by omega)).cell 0, (ht0.below hb (by omega)).cell 1, (ht0.below hb (by omega)).cell 2, (hm0.below hb (by omega)).cell 0, (hm0.below hb (by omega)).cell 1⟩
      have Tx := Lib.hid tx
      obtain ⟨x0, x1, x2, -, -⟩ := tx _ (Below.refl _ _)
      clear tx
      go_enter Try.func62, Try.ntmps62
      go_wp2_with fail
      refine (may_at (.agg #[.bool t.never, .int .u8 t.c, .slice A n cp]) t _ HM.out (F0 t A n cp mv mc w) w.heap.size ⟨A, n, cp, rfl, hr0⟩ (by omega)).mono ?_; rintro e w1 ⟨rfl, hb1⟩
      clear x0 x1 x2
      generalize hF : F0 t A n cp mv mc w = w0 at hb0 hs0 ht0 hm0 hr0 Tx hb1 ⊢
      clear hF
      have hk1 := hb1.mono (show w.heap.size + 2 ≤ w0.heap.size by omega)
      have hw1 := hb0.trans (hb1.mono (by omega))
      obtain ⟨-, -, -, y0, y1⟩ := Tx.out _ hk1
      go_wp2_with fail
      refine (is_at mc mv _ HI.out w1).mono ?_; rintro e w2 ⟨rfl, hb2⟩
      have hk2 := hk1.trans (hb2.mono (by have := hb1.size; omega))
      have hw2 := hw1.trans (hb2.mono hw1.size)
      clear y0 y1
      go_wp2_with fail
      go_ret2
      exact ⟨none, 0, 0, rfl, IneqsV.nil, hw2⟩
    · have HI := Lib.hid (isE_yes hi)
      have hg : ¬ (1 ≤ g ∧ g ≤ 3) := by
        rintro ⟨ha, hb⟩
        simp [fitsB, hm, hi, ha, hb] at h
      clear h hm hi
      by_cases h1 : g < 1
      · clear hg
        obtain ⟨A, n, cp, rfl, hr⟩ := hv
        obtain ⟨hb0, hs0, ht0, hm0⟩ := F0_facts t A n cp mv mc w
        have hr0 := (hr.more hB).below hb0
        have tx : ∀ w', Below (w.heap.size + 2) (F0 t A n cp mv mc w) w' → w'.cell? ⟨w.heap.size, 0, none⟩ = some (.bool t.never) ∧ w'.cell? ⟨w.heap.size, 1, none⟩ = some (.int .u8 t.c) ∧ w'.cell? ⟨w.heap.size, 2, none⟩ = some (.slice A n cp) ∧ w'.cell? ⟨w.heap.size + 1, 0, none⟩ = some (.int .i64 mv) ∧ w'.cell? ⟨w.heap.size + 1, 1, none⟩ = some (.int .u8 mc) := fun w' hb => ⟨(ht0.below hb (by omega)).cell 0, (ht0.below hb (by omega)).cell 1, (ht0.below hb (by omega)).cell 2, (hm0.below hb (by omega)).cell 0, (hm0.below hb (by omega)).cell 1⟩
        have Tx := Lib.hid tx
        obtain ⟨x0, x1, x2, -, -⟩ := tx _ (Below.refl _ _)
        clear tx
        go_enter Try.func62, Try.ntmps62
        go_wp2_with fail
        refine (may_at (.agg #[.bool t.never, .int .u8 t.c, .slice A n cp]) t _ HM.out (F0 t A n cp mv mc w) w.heap.size ⟨A, n, cp, rfl, hr0⟩ (by omega)).mono ?_; rintro e w1 ⟨rfl, hb1⟩
        clear x0 x1 x2
        generalize hF : F0 t A n cp mv mc w = w0 at hb0 hs0 ht0 hm0 hr0 Tx hb1 ⊢
        clear hF
        have hk1 := hb1.mono (show w.heap.size + 2 ≤ w0.heap.size by omega)
        have hw1 := hb0.trans (hb1.mono (by omega))
        obtain ⟨-, -, -, y0, y1⟩ := Tx.out _ hk1
        go_wp2_with fail
        refine (is_at mc mv _ HI.out w1).mono ?_; rintro e w2 ⟨rfl, hb2⟩
        have hk2 := hk1.trans (hb2.mono (by have := hb1.size; omega))
        have hw2 := hw1.trans (hb2.mono hw1.size)
        clear y0 y1
        go_wp2_with fail
        go_ret2
        exact ⟨none, 0, 0, rfl, IneqsV.nil, hw2⟩
      · have h2 : 3 < g := by omega
        clear hg
        obtain ⟨A, n, cp, rfl, hr⟩ := hv
        obtain ⟨hb0, hs0, ht0, hm0⟩ := F0_facts t A n cp mv mc w
        have hr0 := (hr.more hB).below hb0
        have tx : ∀ w', Below (w.heap.size + 2) (F0 t A n cp mv mc w) w' → w'.cell? ⟨w.heap.size, 0, none⟩ = some (.bool t.never) ∧ w'.cell? ⟨w.heap.size, 1, none⟩ = some (.int .u8 t.c) ∧ w'.cell? ⟨w.heap.size, 2, none⟩ = some (.slice A n cp) ∧ w'.cell? ⟨w.heap.size + 1, 0, none⟩ = some (.int .i64 mv) ∧ w'.cell? ⟨w.heap.size + 1, 1, none⟩ = some (.int .u8 mc) := fun w' hb => ⟨(ht0.below hb (by omega)).cell 0, (ht0.below hb (by omega)).cell 1, (ht0.below hb (by omega)).cell 2, (hm0.below hb (by omega)).cell 0, (hm0.below hb (by omega)).cell 1⟩
        have Tx := Lib.hid tx
        obtain ⟨x0, x1, x2, -, -⟩ := tx _ (Below.refl _ _)
        clear tx
        go_enter Try.func62, Try.ntmps62
        go_wp2_with fail
        refine (may_at (.agg #[.bool t.never, .int .u8 t.c, .slice A n cp]) t _ HM.out (F0 t A n cp mv mc w) w.heap.size ⟨A, n, cp, rfl, hr0⟩ (by omega)).mono ?_; rintro e w1 ⟨rfl, hb1⟩
        clear x0 x1 x2
        generalize hF : F0 t A n cp mv mc w = w0 at hb0 hs0 ht0 hm0 hr0 Tx hb1 ⊢
        clear hF
        have hk1 := hb1.mono (show w.heap.size + 2 ≤ w0.heap.size by omega)
        have hw1 := hb0.trans (hb1.mono (by omega))
        obtain ⟨-, -, -, y0, y1⟩ := Tx.out _ hk1
        go_wp2_with fail
        refine (is_at mc mv _ HI.out w1).mono ?_; rintro e w2 ⟨rfl, hb2⟩
        have hk2 := hk1.trans (hb2.mono (by have := hb1.size; omega))
        have hw2 := hw1.trans (hb2.mono hw1.size)
        clear y0 y1
        go_wp2_with fail
        go_ret2
        exact ⟨none, 0, 0, rfl, IneqsV.nil, hw2⟩

set_option maxRecDepth 100000 in
set_option maxHeartbeats 1000000 in
theorem fits_yes (tv : Value) (t : TermD) (g mv mc : Int) (w : World) (B : Nat) (hv : TermV w B tv t) (hB : B ≤ w.heap.size) (h : fitsB t g mv mc = true) (hbig : t.vars.length ≤ 1000000000) :
    Calls Try.prog 62 #[tv, .int .u8 g, .agg #[.int .i64 mv, .int .u8 mc]] w (RetQE (fitsQ t g mv mc) 0 w) := by
  have hmx := @run_max2 Try.prog
  unfold fitsB at h
  simp only [Bool.and_eq_true, decide_eq_true_eq] at h
  obtain ⟨⟨⟨hm, hi⟩, hg1⟩, hg2⟩ := h
  have HM := Lib.hid (mayE_yes hm)
  have HI := Lib.hid (isE_yes hi)
  clear hm hi
  obtain ⟨A, n, cp, rfl, hr⟩ := hv
  obtain ⟨hb0, hs0, ht0, hm0⟩ := F0_facts t A n cp mv mc w
  have hr0 := (hr.more hB).below hb0
  have tx : ∀ w', Below (w.heap.size + 2) (F0 t A n cp mv mc w) w' → w'.cell? ⟨w.heap.size, 0, none⟩ = some (.bool t.never) ∧ w'.cell? ⟨w.heap.size, 1, none⟩ = some (.int .u8 t.c) ∧ w'.cell? ⟨w.heap.size, 2, none⟩ = some (.slice A n cp) ∧ w'.cell? ⟨w.heap.size + 1, 0, none⟩ = some (.int .i64 mv) ∧ w'.cell? ⟨w.heap.size + 1, 1, none⟩ = some (.int .u8 mc) := fun w' hb => ⟨(ht0.below hb (by omega)).cell 0, (ht0.below hb (by omega)).cell 1, (ht0.below hb (by omega)).cell 2, (hm0.below hb (by omega)).cell 0, (hm0.below hb (by omega)).cell 1⟩
  have Tx := Lib.hid tx
  obtain ⟨x0, x1, x2, -, -⟩ := tx _ (Below.refl _ _)
  clear tx
  go_enter Try.func62, Try.ntmps62
  go_wp2_with fail
  refine (may_at (.agg #[.bool t.never, .int .u8 t.c, .slice A n cp]) t _ HM.out (F0 t A n cp mv mc w) w.heap.size ⟨A, n, cp, rfl, hr0⟩ (by omega)).mono ?_; rintro e w1 ⟨rfl, hb1⟩
  clear x0 x1 x2
  generalize hF : F0 t A n cp mv mc w = w0 at hb0 hs0 ht0 hm0 hr0 Tx hb1 ⊢
  clear hF
  have hk1 := hb1.mono (show w.heap.size + 2 ≤ w0.heap.size by omega)
  have hw1 := hb0.trans (hb1.mono (by omega))
  obtain ⟨-, -, -, y0, y1⟩ := Tx.out _ hk1
  go_wp2_with fail
  refine (is_at mc mv _ HI.out w1).mono ?_; rintro e w2 ⟨rfl, hb2⟩
  have hk2 := hk1.trans (hb2.mono (by have := hb1.size; omega))
  have hw2 := hw1.trans (hb2.mono hw1.size)
  clear y0 y1
  obtain ⟨t0, t1, t2, y0, y1⟩ := Tx.out _ hk2
  have z0 : w.heap.size + 1 < w2.heap.size := by have h1 := hb1.size; have h2 := hb2.size; omega
  have z1 : w.heap.size < w2.heap.size := by omega
  have d1 : decide (g < 1) = false := by simp; omega
  have d2 : decide (3 < g) = false := by simp; omega
  have Hbig := Lib.hid hbig
  have HT : Hid ((leastT t).vars.length ≤ 1000000000) := by
    show _ ≤ _
    unfold leastT
    split
    · simp
    · exact hbig
  clear hbig
  by_cases h0 : mc = 0
  · subst h0
    have Hfit : Hid (fitsQ t g mv 0 = fitsL (max g 0) mv (leastT t).c (leastT t).vars) := Lib.hid rfl
    go_wp2_with fail
    have hG := blk_new w2 #[.int .u8 (max g 0), .int .i64 mv, .slice none 0 0] 125
    have hb3 := below_box (w := w2) (Obj.cells #[.int .u8 (max g 0), .int .i64 mv, .slice none 0 0] 125)
    have hz3 : w2.heap.size < (w2.alloc (Obj.cells #[.int .u8 (max g 0), .int .i64 mv, .slice none 0 0] 125)).heap.size := by simp
    generalize w2.alloc (Obj.cells #[.int .u8 (max g 0), .int .i64 mv, .slice none 0 0] 125) = w3 at hG hb3 hz3 ⊢
    have hk3 := hk2.trans (hb3.mono (by omega))
    have hw3 := hw2.trans (hb3.mono (by omega))
    have hr3 := (hr0.below (hk3.mono (by omega)))
    have ht3 := ht0.below hk3 (by omega)
    clear t0 t1 t2
    refine (least_own_t (.agg #[.bool t.never, .int .u8 t.c, .slice A n cp]) t w3 w.heap.size ⟨A, n, cp, rfl, hr3⟩ (by omega) (by have := Hbig.out; omega)).mono ?_
    rintro e w4 ⟨A4, n4, c4, rfl, hr4, hb4, hf4⟩
    have ht4 := ht3.below hb4 (by omega)
    have hG4 := hG.below hb4 (by omega)
    have hw4 := hw3.trans (hb4.mono (by omega))
    have hz4 : w3.heap.size ≤ w4.heap.size := hb4.size
    have u0 : w4.cell? ⟨w.heap.size, 0, none⟩ = some (.bool t.never) := ht4.cell 0
    have u1 : w4.cell? ⟨w.heap.size, 1, none⟩ = some (.int .u8 t.c) := ht4.cell 1
    have u2 : w4.cell? ⟨w.heap.size, 2, none⟩ = some (.slice A n cp) := ht4.cell 2
    have v0 := ht4.frozen 0
    have v1 := ht4.frozen 1
    have v2 := ht4.frozen 2
    generalize leastT t = T at Hfit hr4 HT ⊢
    clear hb4 hG ht3 hr3 hk3 hw3 hb3
    go_wp2_with fail
    have hX := (((But.refl w4.heap.size w.heap.size w4).set 0 (.bool T.never)).set 1 (.int .u8 T.c)).set 2 (.slice A4 n4 c4)
    have hs5 := ht4.set3 (.bool T.never) (.int .u8 T.c) (.slice A4 n4 c4)
    have hw5 := hw4.trans (hX.below (by omega))
    have hz5 : w4.heap.size ≤ ((((w4.setCell ⟨w.heap.size, 0, none⟩ (.bool T.never)).setCell ⟨w.heap.size, 1, none⟩ (.int .u8 T.c)).setCell ⟨w.heap.size, 2, none⟩ (.slice A4 n4 c4))).heap.size := by simp
    have hG5 := hG4.but hX (by omega) (by omega)
    have hr5 := hX.rdI hr4 (fun a ha => by have := hf4 a ha; omega)
    generalize (((w4.setCell ⟨w.heap.size, 0, none⟩ (.bool T.never)).setCell ⟨w.heap.size, 1, none⟩ (.int .u8 T.c)).setCell ⟨w.heap.size, 2, none⟩ (.slice A4 n4 c4)) = w5 at hX hs5 hw5 hz5 hG5 hr5 ⊢
    have hL5 : LayW w5 w2.heap.size w4.heap.size (max g 0) mv [] := ⟨none, 0, hG5, World.ownsRow_nil _ _ _ _, by omega, by omega⟩
    clear hX u0 u1 u2 v0 v1 v2 hG4 ht4 hr4 hw4
    refine (put_any 0 T.c (max g 0) mv w2.heap.size w4.heap.size [] w5 hL5 (by simp)).mono ?_
    rintro e w6 ⟨rfl, hL6, hx6⟩
    rw [List.nil_append] at hL6
    have hs6 := hs5.but hx6 (by omega) (by omega)
    have p2 : w6.cell? ⟨w.heap.size, 2, none⟩ = some (.slice A4 n4 c4) := hs6.cell 2
    have Hr6 := Lib.hid (hx6.rdI hr5 (fun a ha => by have := hf4 a ha; omega))
    have Hw6 := Lib.hid (hw5.trans (hx6.below (by omega) |>.mono (by omega)))
    have HL6 := Lib.hid hL6
    have Hf4 := Lib.hid hf4
    have Hl := Lib.hid Hr6.out.len
    have hn63 : n4 ≤ 1000000000 := by have := Hl.out; have := HT.out; omega
    clear hL5 hs5 hG5 hr5 hx6 hs6 hL6 hf4 hw5
    go_wp2_with fail
    go_loopg [54] n4 (fun gh i wr => ∃ k : Nat, k ≤ n4 ∧ gh = n4 - k ∧ i = .int .i64 k ∧ Hid (LayW wr w2.heap.size w4.heap.size (max g 0) mv (putQ (max g 0) mv 0 T.c ++ putsV (max g 0) mv (T.vars.take k))) ∧ Hid (But w4.heap.size w2.heap.size w6 wr))
    case atStart => exact ⟨0, Nat.zero_le _, rfl, rfl, by rw [List.take_zero]; show Hid (LayW _ _ _ _ _ (_ ++ [])); rw [List.append_nil]; exact HL6, Lib.hid (But.refl _ _ _)⟩
    case round =>
      obtain ⟨k, hk, rfl, rfl, HL, HX⟩ := hrel
      by_cases hlk : k < n4
      · have hk' : k < T.vars.length := by rw [Hl.out]; exact hlk
        have hrr := HX.out.rdI Hr6.out (fun a ha => by have := Hf4.out a ha; omega)
        obtain ⟨b, off, rfl, hb, hcell⟩ := hrr.at_ (by omega)
        have q0 := hcell k hk'
        have htk : T.vars.take (k + 1) = T.vars.take k ++ [T.vars[k]] := by rw [List.take_succ_eq_append_getElem hk']
        have Htk := Lib.hid htk
        generalize T.vars[k] = V at q0 Htk
        have hlen : (putQ (max g 0) mv 0 T.c ++ putsV (max g 0) mv (T.vars.take k)).length ≤ 1099511627776 := by
          have h1 := putQ_len (max g 0) mv 0 T.c
          have h2 := putsV_len (max g 0) mv (T.vars.take k)
          have h3 : (T.vars.take k).length ≤ k := List.length_take_le _ _
          rw [List.length_append]
          omega
        have Hlen := Lib.hid hlen
        clear htk hcell hrr hlen
        go_wp2_with fail
        refine (put_any V 0 (max g 0) mv w2.heap.size w4.heap.size _ wr HL.out Hlen.out).mono ?_
        rintro e w7 ⟨rfl, hL7, hx7⟩
        have HL7 : Hid (LayW w7 w2.heap.size w4.heap.size (max g 0) mv (putQ (max g 0) mv 0 T.c ++ putsV (max g 0) mv (T.vars.take (k + 1)))) := by
          show LayW _ _ _ _ _ _
          rw [Htk.out, putsV_snoc, ← List.append_assoc]
          exact hL7
        have HX7 := Lib.hid (HX.out.trans hx7)
        clear hL7 hx7
        go_wp2_with fail
        go_roundg (n4 - (k + 1))
        case measure => omega
        case rel => exact ⟨k + 1, by omega, rfl, by go_num, HL7, HX7⟩
      · have hkn : k = n4 := by omega
        subst hkn
        have HL' : Hid (LayW wr w2.heap.size w4.heap.size (max g 0) mv (fitsQ t g mv 0)) := by
          show LayW _ _ _ _ _ _
          rw [Hfit.out]
          have := HL.out
          rw [List.take_of_length_le (by rw [Hl.out]; exact Nat.le_refl _)] at this
          exact this
        obtain ⟨A8, c8, hG8, ho8, -, -⟩ := HL'.out
        have p8 : wr.cell? ⟨w2.heap.size, 2, none⟩ = some (.slice A8 (fitsQ t g mv 0).length c8) := hG8.cell 2
        have Ho8 := Lib.hid ho8
        clear HL ho8 hG8
        go_wp2_with fail
        go_ret2
        exact ⟨A8, _, c8, rfl, IneqsV.of_own Ho8.out, Hw6.out.trans ((HX.out.below (by omega)).mono (by omega))⟩
  · have Hfit : Hid (fitsQ t g mv mc = fitsL (max g mc) (-1) (leastT t).c (leastT t).vars) := by show _ = _; unfold fitsQ; rw [if_neg h0]
    have hz : (mc == 0) = false := by simp [h0]
    clear h0
    go_wp2_with fail
    have hG := blk_new w2 #[.int .u8 (max g mc), .int .i64 (-1), .slice none 0 0] 125
    have hb3 := below_box (w := w2) (Obj.cells #[.int .u8 (max g mc), .int .i64 (-1), .slice none 0 0] 125)
    have hz3 : w2.heap.size < (w2.alloc (Obj.cells #[.int .u8 (max g mc), .int .i64 (-1), .slice none 0 0] 125)).heap.size := by simp
    generalize w2.alloc (Obj.cells #[.int .u8 (max g mc), .int .i64 (-1), .slice none 0 0] 125) = w3 at hG hb3 hz3 ⊢
    have hk3 := hk2.trans (hb3.mono (by omega))
    have hw3 := hw2.trans (hb3.mono (by omega))
    have hr3 := (hr0.below (hk3.mono (by omega)))
    have ht3 := ht0.below hk3 (by omega)
    clear t0 t1 t2
    refine (least_own_t (.agg #[.bool t.never, .int .u8 t.c, .slice A n cp]) t w3 w.heap.size ⟨A, n, cp, rfl, hr3⟩ (by omega) (by have := Hbig.out; omega)).mono ?_
    rintro e w4 ⟨A4, n4, c4, rfl, hr4, hb4, hf4⟩
    have ht4 := ht3.below hb4 (by omega)
    have hG4 := hG.below hb4 (by omega)
    have hw4 := hw3.trans (hb4.mono (by omega))
    have hz4 : w3.heap.size ≤ w4.heap.size := hb4.size
    have u0 : w4.cell? ⟨w.heap.size, 0, none⟩ = some (.bool t.never) := ht4.cell 0
    have u1 : w4.cell? ⟨w.heap.size, 1, none⟩ = some (.int .u8 t.c) := ht4.cell 1
    have u2 : w4.cell? ⟨w.heap.size, 2, none⟩ = some (.slice A n cp) := ht4.cell 2
    have v0 := ht4.frozen 0
    have v1 := ht4.frozen 1
    have v2 := ht4.frozen 2
    generalize leastT t = T at Hfit hr4 HT ⊢
    clear hb4 hG ht3 hr3 hk3 hw3 hb3
    go_wp2_with fail
    have hX := (((But.refl w4.heap.size w.heap.size w4).set 0 (.bool T.never)).set 1 (.int .u8 T.c)).set 2 (.slice A4 n4 c4)
    have hs5 := ht4.set3 (.bool T.never) (.int .u8 T.c) (.slice A4 n4 c4)
    have hw5 := hw4.trans (hX.below (by omega))
    have hz5 : w4.heap.size ≤ ((((w4.setCell ⟨w.heap.size, 0, none⟩ (.bool T.never)).setCell ⟨w.heap.size, 1, none⟩ (.int .u8 T.c)).setCell ⟨w.heap.size, 2, none⟩ (.slice A4 n4 c4))).heap.size := by simp
    have hG5 := hG4.but hX (by omega) (by omega)
    have hr5 := hX.rdI hr4 (fun a ha => by have := hf4 a ha; omega)
    generalize (((w4.setCell ⟨w.heap.size, 0, none⟩ (.bool T.never)).setCell ⟨w.heap.size, 1, none⟩ (.int .u8 T.c)).setCell ⟨w.heap.size, 2, none⟩ (.slice A4 n4 c4)) = w5 at hX hs5 hw5 hz5 hG5 hr5 ⊢
    have hL5 : LayW w5 w2.heap.size w4.heap.size (max g mc) (-1) [] := ⟨none, 0, hG5, World.ownsRow_nil _ _ _ _, by omega, by omega⟩
    clear hX u0 u1 u2 v0 v1 v2 hG4 ht4 hr4 hw4
    refine (put_any 0 T.c (max g mc) (-1) w2.heap.size w4.heap.size [] w5 hL5 (by simp)).mono ?_
    rintro e w6 ⟨rfl, hL6, hx6⟩
    rw [List.nil_append] at hL6
    have hs6 := hs5.but hx6 (by omega) (by omega)
    have p2 : w6.cell? ⟨w.heap.size, 2, none⟩ = some (.slice A4 n4 c4) := hs6.cell 2
    have Hr6 := Lib.hid (hx6.rdI hr5 (fun a ha => by have := hf4 a ha; omega))
    have Hw6 := Lib.hid (hw5.trans (hx6.below (by omega) |>.mono (by omega)))
    have HL6 := Lib.hid hL6
    have Hf4 := Lib.hid hf4
    have Hl := Lib.hid Hr6.out.len
    have hn63 : n4 ≤ 1000000000 := by have := Hl.out; have := HT.out; omega
    clear hL5 hs5 hG5 hr5 hx6 hs6 hL6 hf4 hw5
    go_wp2_with fail
    go_loopg [54] n4 (fun gh i wr => ∃ k : Nat, k ≤ n4 ∧ gh = n4 - k ∧ i = .int .i64 k ∧ Hid (LayW wr w2.heap.size w4.heap.size (max g mc) (-1) (putQ (max g mc) (-1) 0 T.c ++ putsV (max g mc) (-1) (T.vars.take k))) ∧ Hid (But w4.heap.size w2.heap.size w6 wr))
    case atStart => exact ⟨0, Nat.zero_le _, rfl, rfl, by rw [List.take_zero]; show Hid (LayW _ _ _ _ _ (_ ++ [])); rw [List.append_nil]; exact HL6, Lib.hid (But.refl _ _ _)⟩
    case round =>
      obtain ⟨k, hk, rfl, rfl, HL, HX⟩ := hrel
      by_cases hlk : k < n4
      · have hk' : k < T.vars.length := by rw [Hl.out]; exact hlk
        have hrr := HX.out.rdI Hr6.out (fun a ha => by have := Hf4.out a ha; omega)
        obtain ⟨b, off, rfl, hb, hcell⟩ := hrr.at_ (by omega)
        have q0 := hcell k hk'
        have htk : T.vars.take (k + 1) = T.vars.take k ++ [T.vars[k]] := by rw [List.take_succ_eq_append_getElem hk']
        have Htk := Lib.hid htk
        generalize T.vars[k] = V at q0 Htk
        have hlen : (putQ (max g mc) (-1) 0 T.c ++ putsV (max g mc) (-1) (T.vars.take k)).length ≤ 1099511627776 := by
          have h1 := putQ_len (max g mc) (-1) 0 T.c
          have h2 := putsV_len (max g mc) (-1) (T.vars.take k)
          have h3 : (T.vars.take k).length ≤ k := List.length_take_le _ _
          rw [List.length_append]
          omega
        have Hlen := Lib.hid hlen
        clear htk hcell hrr hlen
        go_wp2_with fail
        refine (put_any V 0 (max g mc) (-1) w2.heap.size w4.heap.size _ wr HL.out Hlen.out).mono ?_
        rintro e w7 ⟨rfl, hL7, hx7⟩
        have HL7 : Hid (LayW w7 w2.heap.size w4.heap.size (max g mc) (-1) (putQ (max g mc) (-1) 0 T.c ++ putsV (max g mc) (-1) (T.vars.take (k + 1)))) := by
          show LayW _ _ _ _ _ _
          rw [Htk.out, putsV_snoc, ← List.append_assoc]
          exact hL7
        have HX7 := Lib.hid (HX.out.trans hx7)
        clear hL7 hx7
        go_wp2_with fail
        go_roundg (n4 - (k + 1))
        case measure => omega
        case rel => exact ⟨k + 1, by omega, rfl, by go_num, HL7, HX7⟩
      · have hkn : k = n4 := by omega
        subst hkn
        have HL' : Hid (LayW wr w2.heap.size w4.heap.size (max g mc) (-1) (fitsQ t g mv mc)) := by
          show LayW _ _ _ _ _ _
          rw [Hfit.out]
          have := HL.out
          rw [List.take_of_length_le (by rw [Hl.out]; exact Nat.le_refl _)] at this
          exact this
        obtain ⟨A8, c8, hG8, ho8, -, -⟩ := HL'.out
        have p8 : wr.cell? ⟨w2.heap.size, 2, none⟩ = some (.slice A8 (fitsQ t g mv mc).length c8) := hG8.cell 2
        have Ho8 := Lib.hid ho8
        clear HL ho8 hG8
        go_wp2_with fail
        go_ret2
        exact ⟨A8, _, c8, rfl, IneqsV.of_own Ho8.out, Hw6.out.trans ((HX.out.below (by omega)).mono (by omega))⟩

end Go.Proofs.Ythabkpkgocafoaa

