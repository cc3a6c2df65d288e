/- Laying inequalities below a bound: words for memory, the contract of (*ineq.layer).put. -/
import Derived.Test.YtbccnfgceabopaaDoorIneqA
import Derived.Test.YtbccnfgceabopaaDoorTermJ
import Derived.Test.YtbccnfgceabopaaDoorApp
import Derived.BigQuiet
import Derived.Deep.QuietTactic
import Derived.Test.YtbccnfgceabopaaDoorOrd
import Derived.Deep.DrawnRows
namespace Go.Proofs.YtbccnfgceabopaaDoor
set_option linter.unusedVariables false
set_option linter.unusedSimpArgs false
open Go.RowKit
attribute [local go_sem ↓] Go.wp_at_zero Go.wp_at_succ

def icells (x : IneqD) : List Value := [.int .i64 x.lv, .int .u8 x.lc, .int .u8 x.c, .int .i64 x.r]
def icellsL : List IneqD → List Value
  | [] => []
  | x :: r => icells x ++ icellsL r
theorem icellsL_append : ∀ (a b : List IneqD), icellsL (a ++ b) = icellsL a ++ icellsL b
  | [], b => rfl
  | x :: a, b => by show icells x ++ icellsL (a ++ b) = (icells x ++ icellsL a) ++ icellsL b; rw [icellsL_append a b, List.append_assoc]
theorem icellsL_one (x : IneqD) : icellsL [x] = icells x := by simp [icellsL]
theorem icellsL_len : ∀ (xs : List IneqD), (icellsL xs).length = xs.length * 4
  | [] => rfl
  | x :: r => by show (icells x ++ icellsL r).length = (r.length + 1) * 4; rw [List.length_append, icellsL_len r]; simp [icells]; omega
theorem icellsL_at : ∀ (xs : List IneqD) (i j : Nat) (h : i < xs.length), j < 4 → (icellsL xs)[i * 4 + j]? = (icells xs[i])[j]?
  | x :: r, 0, j, _, hj => by
    show (icells x ++ icellsL r)[0 * 4 + j]? = _
    rw [List.getElem?_append_left (by simp [icells]; omega)]
    simp
  | x :: r, i + 1, j, h, hj => by
    show (icells x ++ icellsL r)[(i + 1) * 4 + j]? = _
    rw [List.getElem?_append_right (by simp [icells]; omega)]
    rw [show (i + 1) * 4 + j - (icells x).length = i * 4 + j by simp [icells]; omega, icellsL_at r i j (by simpa using h) hj]
    rfl
theorem IneqsV.of_own {w : World} {B : Nat} {A : Option Addr} {n c : Nat} {xs : List IneqD} (h : w.ownsRow B 36 4 (.slice A n c) n (icellsL xs)) : IneqsV w w.heap.size A n c xs := by
  have hl : xs.length = n := by have := h.1; rw [icellsL_len] at this; omega
  rcases h.2 with ⟨e0, hn⟩ | ⟨g, cap, cur, e0, hb, hg, hn, hm, hs, ht⟩
  · injection e0 with e1 e2 e3
    subst e1; subst e2; subst e3
    exact ⟨hl, Nat.le_refl _, Nat.zero_le _, fun h => absurd h (by omega)⟩
  · injection e0 with e1 e2 e3
    subst e1; subst e3
    refine ⟨hl, hn, hm, fun hn0 => ⟨g, 0, rfl, (Array.getElem?_eq_some_iff.1 hg).1, fun i hi => ?_⟩⟩
    have hc : ∀ j, j < 4 → w.cell? ⟨g, 0 + i * 4 + j, none⟩ = (icells xs[i])[j]? := fun j hj => by
      have h0 := icellsL_at xs i j hi hj
      have h1 : j < (icells xs[i]).length := by simpa [icells] using hj
      rw [List.getElem?_eq_getElem h1] at h0 ⊢
      have := h.cells (g := g) rfl _ _ h0
      rw [show (Addr.add ⟨g, 0, none⟩ (i * 4 + j)) = ⟨g, 0 + i * 4 + j, none⟩ from by unfold Addr.add; split <;> simp_all] at this
      exact this
    exact ⟨hc 0 (by omega), hc 1 (by omega), hc 2 (by omega), hc 3 (by omega)⟩

/-- all below block B but block g is as it was -/
structure But (B g : Nat) (w w' : World) : Prop where
  os : w'.os = w.os
  tape : w'.tape = w.tape
  output : w'.output = w.output
  size : w.heap.size ≤ w'.heap.size
  block : ∀ k, k < B → k ≠ g → w'.heap[k]? = w.heap[k]?
section
variable {B g : Nat} {w w' w'' : World}
theorem But.refl (B g : Nat) (w : World) : But B g w w := ⟨rfl, rfl, rfl, Nat.le_refl _, fun _ _ _ => rfl⟩
theorem But.drewN (h : But B g w w') (k : Nat) : But B g w (w'.drewN k) := ⟨h.os, h.tape, h.output, h.size, h.block⟩
theorem But.trans (h : But B g w w') (k : But B g w' w'') : But B g w w'' :=
  ⟨k.os.trans h.os, k.tape.trans h.tape, k.output.trans h.output, Nat.le_trans h.size k.size, fun i hi hg => (k.block i hi hg).trans (h.block i hi hg)⟩
theorem But.of_below (h : Below B w w') : But B g w w' := ⟨h.os, h.tape, h.output, h.size, fun k hk _ => h.block k hk⟩
theorem But.below (h : But B g w w') (hg : g ≤ B) : Below g w w' := ⟨h.os, h.tape, h.output, h.size, fun k hk => h.block k (by omega) (by omega)⟩
theorem But.set (h : But B g w w') (i : Nat) (u : Value) : But B g w (w'.setCell ⟨g, i, none⟩ u) :=
  ⟨h.os, h.tape, h.output, by rw [World.size_setCell]; exact h.size, fun k hk hne => (Below.heap_setCell _ _ _ _ hne).trans (h.block k hk hne)⟩
theorem But.rdI {k : IntKind} {A : Option Addr} {n c : Nat} {us : List Int} (h : But B g w w') (hr : RdI k w B A n c us) (hA : ∀ a, A = some a → a.block ≠ g) : RdI k w' B A n c us := by
  refine ⟨⟨hr.1.1, fun hn => ?_⟩, hr.2⟩
  obtain ⟨b, off, e, hb, hc⟩ := hr.1.2 hn
  exact ⟨b, off, e, hb, fun j u hu => (World.cell?_of_block (h.block b hb (hA _ e))).trans (hc j u hu)⟩
theorem Blk.but {t : TypeId} {cs : Array Value} {s : Nat} (h : Blk w s t cs) (hb : But B g w w') (hs : s < B) (hne : s ≠ g) : Blk w' s t cs := (hb.block s hs hne).trans h
end

/-- the memory of a layer: block g, its inequalities from block B on -/
def LayW (w : World) (g B : Nat) (c r : Int) (xs : List IneqD) : Prop :=
  ∃ A cap, Blk w g 80 #[.int .u8 c, .int .i64 r, .slice A xs.length cap] ∧ w.ownsRow B 36 4 (.slice A xs.length cap) xs.length (icellsL xs) ∧ g < B ∧ B ≤ w.heap.size

theorem LayW.drewN {w : World} {g B : Nat} {c r : Int} {xs : List IneqD} (h : LayW w g B c r xs) (k : Nat) : LayW (w.drewN k) g B c r xs := h
def putsQ (c r mv mc : Int) : Bool := if mc = 0 then !(c == 3 || mv == r) else decide (c < mc)
def putQ (c r mv mc : Int) : List IneqD := if putsQ c r mv mc then [⟨mv, mc, c, r⟩] else []

theorem ineqInfo : (Tryd.prog.info? 36).map (fun i => (i.zero, i.size, i.bytes)) = some (some (.agg #[.int .i64 0, .int .u8 0, .int .u8 0, .int .i64 0]), 4, 32) := by kernel_rfl

theorem rd_new4 (w : World) (x : IneqD) (t : TypeId) : Rd (w.alloc (Obj.cells (icells x).toArray t)) (w.heap.size + 1) 4 (some ⟨w.heap.size, 0, none⟩) 1 (icells x) :=
  ⟨rfl, fun _ => ⟨w.heap.size, 0, rfl, Nat.lt_succ_self _, fun j u hu => by rw [Nat.zero_add, World.cell?_alloc_new]; simpa using hu⟩⟩


set_option maxRecDepth 100000 in
set_option maxHeartbeats 1000000 in
theorem put_any (mv mc c r : Int) (g B : Nat) (xs : List IneqD) (w : World) (h : LayW w g B c r xs) (hbig : xs.length ≤ 1099511627776) :
    Calls Tryd.prog 52 #[.pointer (some ⟨g, 0, none⟩), .agg #[.int .i64 mv, .int .u8 mc]] w fun e w' => e = .returned (.tuple #[]) ∧ LayW w' g B c r (xs ++ putQ c r mv mc) ∧ But B g w w' := by
  obtain ⟨i0, hi0, hz0, hz1, hz2⟩ := info_parts ineqInfo
  obtain ⟨A, cap, hk, ho, hgB, hB⟩ := h
  have hk0 := hk.alloc (Obj.cells #[.int .i64 mv, .int .u8 mc] 31)
  have ho0 := ho.alloc (Obj.cells #[.int .i64 mv, .int .u8 mc] 31)
  have hbel0 : Below w.heap.size w (w.alloc (Obj.cells #[.int .i64 mv, .int .u8 mc] 31)) := below_box _
  have hwb := blk_new w #[.int .i64 mv, .int .u8 mc] 31
  have hbut : But B g w (w.alloc (Obj.cells #[.int .i64 mv, .int .u8 mc] 31)) := But.of_below ((Below.refl _ _).alloc hB _)
  have x0 : (w.alloc (Obj.cells #[.int .i64 mv, .int .u8 mc] 31)).cell? ⟨g, 0, none⟩ = some (.int .u8 c) := hk0.cell 0
  have x1 : (w.alloc (Obj.cells #[.int .i64 mv, .int .u8 mc] 31)).cell? ⟨g, 1, none⟩ = some (.int .i64 r) := hk0.cell 1
  have x2 : (w.alloc (Obj.cells #[.int .i64 mv, .int .u8 mc] 31)).cell? ⟨g, 2, none⟩ = some (.slice A xs.length cap) := hk0.cell 2
  have y0 : (w.alloc (Obj.cells #[.int .i64 mv, .int .u8 mc] 31)).cell? ⟨w.heap.size, 0, none⟩ = some (.int .i64 mv) := hwb.cell 0
  have y1 : (w.alloc (Obj.cells #[.int .i64 mv, .int .u8 mc] 31)).cell? ⟨w.heap.size, 1, none⟩ = some (.int .u8 mc) := hwb.cell 1
  have hz0 : (w.alloc (Obj.cells #[.int .i64 mv, .int .u8 mc] 31)).heap.size = w.heap.size + 1 := by simp
  have hn1 : (Value.slice A xs.length cap).ownBlock ≠ some g := fun e => by have := (ho.lt _ e).1; omega
  have hn2 : (Value.slice A xs.length cap).ownBlock ≠ some w.heap.size := fun e => by have := (ho.lt _ e).2; omega
  have Hn := Lib.hid hn1
  have Hn2 := Lib.hid hn2
  have Hz := Lib.hid hz0
  clear hk ho hn1 hn2 hz0
  by_cases h0 : mc = 0
  · subst h0
    by_cases h1 : c = 3
    · subst h1
      have HQ : Hid (putQ (3) (r) (mv) (0) = []) := by show _ = _; simp [putQ, putsQ ]
      have HB := Lib.hid hbut
      have HL : Hid (LayW (w.alloc (Obj.cells #[.int .i64 (mv), .int .u8 (0)] 31)) g B (3) (r) xs) := Lib.hid ⟨A, cap, hk0, ho0, hgB, by simp; omega⟩
      clear hbut hk0 ho0
      go_enter Tryd.func52, Tryd.ntmps52
      go_wp2_with fail
      go_quiet (fail)
      go_wp2_with fail
      exact bodyPost_ret (v := .tuple #[]) (by simp [results, Tryd.results52, go_sem]) rfl ⟨rfl, by rw [HQ.out, List.append_nil]; exact HL.out.drewN _, HB.out.drewN _⟩
    · have HQ : Hid (c ≠ 3) := Lib.hid h1
      by_cases h2 : mv = r
      · subst h2
        have d1 : (c == 3) = false := by simp [h1]
        clear h1
        have HQ : Hid (putQ (c) (mv) (mv) (0) = []) := by show _ = _; simp [putQ, putsQ , HQ.out]
        have HB := Lib.hid hbut
        have HL : Hid (LayW (w.alloc (Obj.cells #[.int .i64 (mv), .int .u8 (0)] 31)) g B (c) (mv) xs) := Lib.hid ⟨A, cap, hk0, ho0, hgB, by simp; omega⟩
        clear hbut hk0 ho0
        go_enter Tryd.func52, Tryd.ntmps52
        go_wp2_with fail
        go_quiet (fail)
        go_wp2_with fail
        exact bodyPost_ret (v := .tuple #[]) (by simp [results, Tryd.results52, go_sem]) rfl ⟨rfl, by rw [HQ.out, List.append_nil]; exact HL.out.drewN _, HB.out.drewN _⟩
      · have HR : Hid (mv ≠ r) := Lib.hid h2
        have d1 : (c == 3) = false := by simp [h1]
        have d2 : (mv == r) = false := by simp [h2]
        clear h1 h2
        have HQ : Hid (putQ (c) (r) (mv) (0) = [⟨mv, 0, c, r⟩]) := by show _ = _; simp [putQ, putsQ , HQ.out, HR.out]
        go_enter Tryd.func52, Tryd.ntmps52
        go_wp2_with fail
        go_quiet (fail)
        go_wp2_with fail
        generalize hW : w.alloc (Obj.cells #[.int .i64 (mv), .int .u8 (0)] 31) = w0 at hk0 ho0 hbut x0 x1 x2 y0 y1 hwb hbel0 Hz ⊢
        clear hW
        have hgz : g < w0.heap.size := hk0.lt
        have hwz : w.heap.size < w0.heap.size := hwb.lt
        have hne0 : g ≠ w0.heap.size := by omega
        have hne1 : w.heap.size ≠ w0.heap.size := by omega
        refine wp_region_noPanic ?_
        refine wp_region_T (fun w' => w'.cell? ⟨g, 2, none⟩ = some (.slice A xs.length cap) ∧ w'.cell? ⟨g, 0, none⟩ = some (.int .u8 (c)) ∧ w'.cell? ⟨g, 1, none⟩ = some (.int .i64 (r)) ∧ w'.cell? ⟨w.heap.size, 0, none⟩ = some (.int .i64 (mv)) ∧ w'.cell? ⟨w.heap.size, 1, none⟩ = some (.int .u8 (0))) 17 (by kernel_rfl) ⟨x2, x0, x1, y0, y1⟩ (fun hHeld => ?_)
        refine wpAnyT_take (i := 0) (v := ?_) rfl (by kernel_rfl) (by kernel_rfl) (by kernel_rfl) (by kernel_rfl) (fun _ _ _ h => h) (Or.inl ⟨by rfl, ?_⟩) (by assumption) ?_
        rotate_left
        · (intro w hSw; (try dsimp only at hSw); first | (go_simp; done) | (go_simp; with_reducible rfl))
        try simp only [Act.put, List.setIfInBounds_toArray, List.set_cons_zero, List.set_cons_succ]
        refine wpAnyT_take (i := 1) (v := ?_) rfl (by kernel_rfl) (by kernel_rfl) (by kernel_rfl) (by kernel_rfl) (fun _ _ _ h => h) (Or.inl ⟨by rfl, ?_⟩) (by assumption) ?_
        rotate_left
        · (intro w hSw; (try dsimp only at hSw); first | (go_simp; done) | (go_simp; with_reducible rfl))
        try simp only [Act.put, List.setIfInBounds_toArray, List.set_cons_zero, List.set_cons_succ]
        refine wpAnyT_take (i := 2) (v := ?_) rfl (by kernel_rfl) (by kernel_rfl) (by kernel_rfl) (by kernel_rfl) (fun _ _ _ h => h) (Or.inl ⟨by rfl, ?_⟩) (by assumption) ?_
        rotate_left
        · (intro w hSw; (try dsimp only at hSw); first | (go_simp; done) | (go_simp; with_reducible rfl))
        try simp only [Act.put, List.setIfInBounds_toArray, List.set_cons_zero, List.set_cons_succ]
        refine wpAnyT_take (i := 3) (v := ?_) rfl (by kernel_rfl) (by kernel_rfl) (by kernel_rfl) (by kernel_rfl) (fun _ _ _ h => h) (Or.inl ⟨by rfl, ?_⟩) (by assumption) ?_
        rotate_left
        · (intro w hSw; (try dsimp only at hSw); first | (go_simp; done) | (go_simp; with_reducible rfl))
        try simp only [Act.put, List.setIfInBounds_toArray, List.set_cons_zero, List.set_cons_succ]
        refine wpAnyT_take (i := 4) (v := ?_) rfl (by kernel_rfl) (by kernel_rfl) (by kernel_rfl) (by kernel_rfl) (fun _ _ _ h => h) (Or.inl ⟨by rfl, ?_⟩) (by assumption) ?_
        rotate_left
        · (intro w hSw; (try dsimp only at hSw); first | (go_simp; done) | (go_simp; with_reducible rfl))
        try simp only [Act.put, List.setIfInBounds_toArray, List.set_cons_zero, List.set_cons_succ]
        refine wpAnyT_take (i := 5) (v := ?_) rfl (by kernel_rfl) (by kernel_rfl) (by kernel_rfl) (by kernel_rfl) (fun _ _ _ h => h) (Or.inl ⟨by rfl, ?_⟩) (by assumption) ?_
        rotate_left
        · (intro w hSw; (try dsimp only at hSw); first | (go_simp; done) | (go_simp; with_reducible rfl))
        try simp only [Act.put, List.setIfInBounds_toArray, List.set_cons_zero, List.set_cons_succ]
        refine wpAnyT_take (i := 6) (v := ?_) rfl (by kernel_rfl) (by kernel_rfl) (by kernel_rfl) (by kernel_rfl) (fun _ _ _ h => h) (Or.inl ⟨by rfl, ?_⟩) (by assumption) ?_
        rotate_left
        · (intro w hSw; (try dsimp only at hSw); first | (go_simp; done) | (go_simp; with_reducible rfl))
        try simp only [Act.put, List.setIfInBounds_toArray, List.set_cons_zero, List.set_cons_succ]
        refine wpAnyT_take (i := 7) (v := ?_) rfl (by kernel_rfl) (by kernel_rfl) (by kernel_rfl) (by kernel_rfl) (fun _ _ _ h => h) (Or.inl ⟨by rfl, ?_⟩) (by assumption) ?_
        rotate_left
        · (intro w hSw; (try dsimp only at hSw); first | (go_simp; done) | (go_simp; with_reducible rfl))
        try simp only [Act.put, List.setIfInBounds_toArray, List.set_cons_zero, List.set_cons_succ]
        refine wpAnyT_take (i := 8) (v := ?_) rfl (by kernel_rfl) (by kernel_rfl) (by kernel_rfl) (by kernel_rfl) (fun _ _ _ h => h) (Or.inl ⟨by rfl, ?_⟩) (by assumption) ?_
        rotate_left
        · (intro w hSw; (try dsimp only at hSw); first | (go_simp; done) | (go_simp; with_reducible rfl))
        try simp only [Act.put, List.setIfInBounds_toArray, List.set_cons_zero, List.set_cons_succ]
        refine wpAnyT_take (i := 9) (v := ?_) rfl (by kernel_rfl) (by kernel_rfl) (by kernel_rfl) (by kernel_rfl) (fun _ _ _ h => h) (Or.inl ⟨by rfl, ?_⟩) (by assumption) ?_
        rotate_left
        · (intro w hSw; (try dsimp only at hSw); first | (go_simp; done) | (go_simp; with_reducible rfl))
        try simp only [Act.put, List.setIfInBounds_toArray, List.set_cons_zero, List.set_cons_succ]
        refine wpAnyT_take (i := 10) (v := ?_) rfl (by kernel_rfl) (by kernel_rfl) (by kernel_rfl) (by kernel_rfl) (fun _ _ _ h => h) (Or.inl ⟨by rfl, ?_⟩) (by assumption) ?_
        rotate_left
        · (intro w hSw; (try dsimp only at hSw); first | (go_simp; done) | (go_simp; with_reducible rfl))
        try simp only [Act.put, List.setIfInBounds_toArray, List.set_cons_zero, List.set_cons_succ]
        refine wpAnyT_take (i := 11) (v := ?_) rfl (by kernel_rfl) (by kernel_rfl) (by kernel_rfl) (by kernel_rfl) (fun _ _ _ h => h) (Or.inl ⟨by rfl, ?_⟩) (by assumption) ?_
        rotate_left
        · (intro w hSw; (try dsimp only at hSw); first | (go_simp; done) | (go_simp; with_reducible rfl))
        try simp only [Act.put, List.setIfInBounds_toArray, List.set_cons_zero, List.set_cons_succ]
        refine wpAnyT_take (i := 12) (v := ?_) rfl (by kernel_rfl) (by kernel_rfl) (by kernel_rfl) (by kernel_rfl) (fun _ _ _ h => h) (Or.inl ⟨by rfl, ?_⟩) (by assumption) ?_
        rotate_left
        · (intro w hSw; (try dsimp only at hSw); first | (go_simp; done) | (go_simp; with_reducible rfl))
        try simp only [Act.put, List.setIfInBounds_toArray, List.set_cons_zero, List.set_cons_succ]
        refine wpAnyT_take (i := 13) (v := ?_) rfl (by kernel_rfl) (by kernel_rfl) (by kernel_rfl) (by kernel_rfl) (fun _ _ _ h => h) (Or.inl ⟨by rfl, ?_⟩) (by assumption) ?_
        rotate_left
        · (intro w hSw; (try dsimp only at hSw); first | (go_simp; done) | (go_simp; with_reducible rfl))
        try simp only [Act.put, List.setIfInBounds_toArray, List.set_cons_zero, List.set_cons_succ]
        refine wpAnyT_take (i := 14) (v := ?_) rfl (by kernel_rfl) (by kernel_rfl) (by kernel_rfl) (by kernel_rfl) (fun _ _ _ h => h) (Or.inl ⟨by rfl, ?_⟩) (by assumption) ?_
        rotate_left
        · (intro w hSw; (try dsimp only at hSw); first | (go_simp; done) | (go_simp; with_reducible rfl))
        try simp only [Act.put, List.setIfInBounds_toArray, List.set_cons_zero, List.set_cons_succ]
        refine wpAnyT_step (i := 15) (by kernel_rfl) rfl (fun K hK => ?_)
        go_simp
        refine hK.out _ _ ⟨(World.cell?_alloc_lt _ _ ⟨g, 2, none⟩ hgz).trans x2, (World.cell?_alloc_lt _ _ ⟨g, 0, none⟩ hgz).trans x0, (World.cell?_alloc_lt _ _ ⟨g, 1, none⟩ hgz).trans x1, (World.cell?_alloc_lt _ _ ⟨w.heap.size, 0, none⟩ hwz).trans y0, (World.cell?_alloc_lt _ _ ⟨w.heap.size, 1, none⟩ hwz).trans y1⟩ ?_
        clear hK K
        try simp only [Act.put, List.setIfInBounds_toArray, List.set_cons_zero, List.set_cons_succ]
        refine wpAnyT_step (i := 16) (by kernel_rfl) rfl (fun K hK => ?_)
        (refine step_append_rd _ (by rfl) (.tmp 41) (.tmp 52) 37 (by rfl) B 36 i0 _ 4 32 Tryd.underlying37 hi0 hz0 hz1 hz2 rfl (by omega) (.slice A xs.length cap) xs.length (icellsL xs) (by rfl) (ho0.alloc _) _ (some ⟨w0.heap.size, 0, none⟩) 1 1 (icells ⟨mv, 0, c, r⟩) (by rfl) (rd_new4 _ _ _) (by intro u hu; simp [icells] at hu; rcases hu with rfl | rfl | rfl | rfl <;> rfl) (by unfold maxLen; omega) (by omega) (by have := Hz.out; simp; omega) ?_; intro v4 w4 ho4 hg4 hat4; obtain ⟨A4, c4, rfl⟩ := ownsRow_form ho4; have hk4 := Blk.grown (Blk.alloc (w := w0.drewN (nq + 1)) hk0 _) hg4 (Ne.symm Hn.out); have hwb4 := Blk.grown (Blk.alloc (w := w0.drewN (nq + 1)) hwb _) hg4 (Ne.symm Hn2.out))
        refine hK.out _ _ ⟨hk4.cell 2, hk4.cell 0, hk4.cell 1, hwb4.cell 0, hwb4.cell 1⟩ ?_
        clear hK K
        try simp only [Act.put, List.setIfInBounds_toArray, List.set_cons_zero, List.set_cons_succ]
        have g2 : w4.cell? ⟨g, 2, none⟩ = some (.slice A xs.length cap) := hk4.cell 2
        have f2 : w4.frozen? ⟨g, 2, none⟩ = false := hk4.frozen 2
        refine wpAnyT_seq 17 (by omega) (by rfl) (by kernel_rfl) ?_
        simp only [List.drop_succ_cons, List.drop_zero]
        go_wp2_with fail
        refine NoPanic.normal ?_
        go_wp2_with fail
        all_goals
          have hlen : (xs ++ putQ (c) (r) (mv) (0)).length = xs.length + 1 := by rw [HQ.out]; simp
          have hbut4 : But B g w w4 := hbut.trans ⟨hg4.os, hg4.tape, hg4.output, Nat.le_trans (by simp) hg4.size, fun k hk hne => (hg4.block k (by have := Hz.out; simp; omega) (fun e => by have := (ho0.lt _ e.symm).1; omega)).trans (Below.heap_alloc _ _ _ (by have := Hz.out; simp; omega))⟩
          have hfin : LayW (w4.setCell ⟨g, 2, none⟩ (.slice A4 (xs.length + 1) c4)) g B (c) (r) (xs ++ putQ (c) (r) (mv) (0)) := by
            refine ⟨A4, c4, ?_, ?_, hgB, by rw [World.size_setCell]; have := hbut4.size; omega⟩
            · rw [hlen]; exact hk4.set_ 2 _
            · rw [hlen, HQ.out, icellsL_append, icellsL_one]
              exact ownsRow_setCell_below ho4 (by show g < B; exact hgB) _
          have hb5 := hbut4.set 2 (.slice A4 (xs.length + 1) c4)
          clear hlen hbut4
          go_end0
          exact ⟨rfl, hfin, hb5⟩
  · have H0 : Hid (mc ≠ 0) := Lib.hid h0
    have hz : (mc != 0) = true := by simp [h0]
    have hz' : (mc == 0) = false := by simp [h0]
    clear h0
    by_cases h1 : mc ≤ c
    · have h3 : ¬ c < mc := by omega
      have d3 : decide (mc ≤ c) = true := by simpa using h1
      have HQ : Hid (putQ (c) (r) (mv) (mc) = []) := by show _ = _; simp [putQ, putsQ , H0.out, h3]
      have HB := Lib.hid hbut
      have HL : Hid (LayW (w.alloc (Obj.cells #[.int .i64 (mv), .int .u8 (mc)] 31)) g B (c) (r) xs) := Lib.hid ⟨A, cap, hk0, ho0, hgB, by simp; omega⟩
      clear hbut hk0 ho0
      go_enter Tryd.func52, Tryd.ntmps52
      go_wp2_with fail
      go_quiet (fail)
      go_wp2_with fail
      exact bodyPost_ret (v := .tuple #[]) (by simp [results, Tryd.results52, go_sem]) rfl ⟨rfl, by rw [HQ.out, List.append_nil]; exact HL.out.drewN _, HB.out.drewN _⟩
    · have h3 : c < mc := by omega
      have d3 : decide (mc ≤ c) = false := by simp; omega
      have HQ : Hid (putQ (c) (r) (mv) (mc) = [⟨mv, mc, c, r⟩]) := by show _ = _; simp [putQ, putsQ , H0.out, h3]
      go_enter Tryd.func52, Tryd.ntmps52
      go_wp2_with fail
      go_quiet (fail)
      go_wp2_with fail
      generalize hW : w.alloc (Obj.cells #[.int .i64 (mv), .int .u8 (mc)] 31) = w0 at hk0 ho0 hbut x0 x1 x2 y0 y1 hwb hbel0 Hz ⊢
      clear hW
      have hgz : g < w0.heap.size := hk0.lt
      have hwz : w.heap.size < w0.heap.size := hwb.lt
      have hne0 : g ≠ w0.heap.size := by omega
      have hne1 : w.heap.size ≠ w0.heap.size := by omega
      refine wp_region_noPanic ?_
      refine wp_region_T (fun w' => w'.cell? ⟨g, 2, none⟩ = some (.slice A xs.length cap) ∧ w'.cell? ⟨g, 0, none⟩ = some (.int .u8 (c)) ∧ w'.cell? ⟨g, 1, none⟩ = some (.int .i64 (r)) ∧ w'.cell? ⟨w.heap.size, 0, none⟩ = some (.int .i64 (mv)) ∧ w'.cell? ⟨w.heap.size, 1, none⟩ = some (.int .u8 (mc))) 17 (by kernel_rfl) ⟨x2, x0, x1, y0, y1⟩ (fun hHeld => ?_)
      refine wpAnyT_take (i := 0) (v := ?_) rfl (by kernel_rfl) (by kernel_rfl) (by kernel_rfl) (by kernel_rfl) (fun _ _ _ h => h) (Or.inl ⟨by rfl, ?_⟩) (by assumption) ?_
      rotate_left
      · (intro w hSw; (try dsimp only at hSw); first | (go_simp; done) | (go_simp; with_reducible rfl))
      try simp only [Act.put, List.setIfInBounds_toArray, List.set_cons_zero, List.set_cons_succ]
      refine wpAnyT_take (i := 1) (v := ?_) rfl (by kernel_rfl) (by kernel_rfl) (by kernel_rfl) (by kernel_rfl) (fun _ _ _ h => h) (Or.inl ⟨by rfl, ?_⟩) (by assumption) ?_
      rotate_left
      · (intro w hSw; (try dsimp only at hSw); first | (go_simp; done) | (go_simp; with_reducible rfl))
      try simp only [Act.put, List.setIfInBounds_toArray, List.set_cons_zero, List.set_cons_succ]
      refine wpAnyT_take (i := 2) (v := ?_) rfl (by kernel_rfl) (by kernel_rfl) (by kernel_rfl) (by kernel_rfl) (fun _ _ _ h => h) (Or.inl ⟨by rfl, ?_⟩) (by assumption) ?_
      rotate_left
      · (intro w hSw; (try dsimp only at hSw); first | (go_simp; done) | (go_simp; with_reducible rfl))
      try simp only [Act.put, List.setIfInBounds_toArray, List.set_cons_zero, List.set_cons_succ]
      refine wpAnyT_take (i := 3) (v := ?_) rfl (by kernel_rfl) (by kernel_rfl) (by kernel_rfl) (by kernel_rfl) (fun _ _ _ h => h) (Or.inl ⟨by rfl, ?_⟩) (by assumption) ?_
      rotate_left
      · (intro w hSw; (try dsimp only at hSw); first | (go_simp; done) | (go_simp; with_reducible rfl))
      try simp only [Act.put, List.setIfInBounds_toArray, List.set_cons_zero, List.set_cons_succ]
      refine wpAnyT_take (i := 4) (v := ?_) rfl (by kernel_rfl) (by kernel_rfl) (by kernel_rfl) (by kernel_rfl) (fun _ _ _ h => h) (Or.inl ⟨by rfl, ?_⟩) (by assumption) ?_
      rotate_left
      · (intro w hSw; (try dsimp only at hSw); first | (go_simp; done) | (go_simp; with_reducible rfl))
      try simp only [Act.put, List.setIfInBounds_toArray, List.set_cons_zero, List.set_cons_succ]
      refine wpAnyT_take (i := 5) (v := ?_) rfl (by kernel_rfl) (by kernel_rfl) (by kernel_rfl) (by kernel_rfl) (fun _ _ _ h => h) (Or.inl ⟨by rfl, ?_⟩) (by assumption) ?_
      rotate_left
      · (intro w hSw; (try dsimp only at hSw); first | (go_simp; done) | (go_simp; with_reducible rfl))
      try simp only [Act.put, List.setIfInBounds_toArray, List.set_cons_zero, List.set_cons_succ]
      refine wpAnyT_take (i := 6) (v := ?_) rfl (by kernel_rfl) (by kernel_rfl) (by kernel_rfl) (by kernel_rfl) (fun _ _ _ h => h) (Or.inl ⟨by rfl, ?_⟩) (by assumption) ?_
      rotate_left
      · (intro w hSw; (try dsimp only at hSw); first | (go_simp; done) | (go_simp; with_reducible rfl))
      try simp only [Act.put, List.setIfInBounds_toArray, List.set_cons_zero, List.set_cons_succ]
      refine wpAnyT_take (i := 7) (v := ?_) rfl (by kernel_rfl) (by kernel_rfl) (by kernel_rfl) (by kernel_rfl) (fun _ _ _ h => h) (Or.inl ⟨by rfl, ?_⟩) (by assumption) ?_
      rotate_left
      · (intro w hSw; (try dsimp only at hSw); first | (go_simp; done) | (go_simp; with_reducible rfl))
      try simp only [Act.put, List.setIfInBounds_toArray, List.set_cons_zero, List.set_cons_succ]
      refine wpAnyT_take (i := 8) (v := ?_) rfl (by kernel_rfl) (by kernel_rfl) (by kernel_rfl) (by kernel_rfl) (fun _ _ _ h => h) (Or.inl ⟨by rfl, ?_⟩) (by assumption) ?_
      rotate_left
      · (intro w hSw; (try dsimp only at hSw); first | (go_simp; done) | (go_simp; with_reducible rfl))
      try simp only [Act.put, List.setIfInBounds_toArray, List.set_cons_zero, List.set_cons_succ]
      refine wpAnyT_take (i := 9) (v := ?_) rfl (by kernel_rfl) (by kernel_rfl) (by kernel_rfl) (by kernel_rfl) (fun _ _ _ h => h) (Or.inl ⟨by rfl, ?_⟩) (by assumption) ?_
      rotate_left
      · (intro w hSw; (try dsimp only at hSw); first | (go_simp; done) | (go_simp; with_reducible rfl))
      try simp only [Act.put, List.setIfInBounds_toArray, List.set_cons_zero, List.set_cons_succ]
      refine wpAnyT_take (i := 10) (v := ?_) rfl (by kernel_rfl) (by kernel_rfl) (by kernel_rfl) (by kernel_rfl) (fun _ _ _ h => h) (Or.inl ⟨by rfl, ?_⟩) (by assumption) ?_
      rotate_left
      · (intro w hSw; (try dsimp only at hSw); first | (go_simp; done) | (go_simp; with_reducible rfl))
      try simp only [Act.put, List.setIfInBounds_toArray, List.set_cons_zero, List.set_cons_succ]
      refine wpAnyT_take (i := 11) (v := ?_) rfl (by kernel_rfl) (by kernel_rfl) (by kernel_rfl) (by kernel_rfl) (fun _ _ _ h => h) (Or.inl ⟨by rfl, ?_⟩) (by assumption) ?_
      rotate_left
      · (intro w hSw; (try dsimp only at hSw); first | (go_simp; done) | (go_simp; with_reducible rfl))
      try simp only [Act.put, List.setIfInBounds_toArray, List.set_cons_zero, List.set_cons_succ]
      refine wpAnyT_take (i := 12) (v := ?_) rfl (by kernel_rfl) (by kernel_rfl) (by kernel_rfl) (by kernel_rfl) (fun _ _ _ h => h) (Or.inl ⟨by rfl, ?_⟩) (by assumption) ?_
      rotate_left
      · (intro w hSw; (try dsimp only at hSw); first | (go_simp; done) | (go_simp; with_reducible rfl))
      try simp only [Act.put, List.setIfInBounds_toArray, List.set_cons_zero, List.set_cons_succ]
      refine wpAnyT_take (i := 13) (v := ?_) rfl (by kernel_rfl) (by kernel_rfl) (by kernel_rfl) (by kernel_rfl) (fun _ _ _ h => h) (Or.inl ⟨by rfl, ?_⟩) (by assumption) ?_
      rotate_left
      · (intro w hSw; (try dsimp only at hSw); first | (go_simp; done) | (go_simp; with_reducible rfl))
      try simp only [Act.put, List.setIfInBounds_toArray, List.set_cons_zero, List.set_cons_succ]
      refine wpAnyT_take (i := 14) (v := ?_) rfl (by kernel_rfl) (by kernel_rfl) (by kernel_rfl) (by kernel_rfl) (fun _ _ _ h => h) (Or.inl ⟨by rfl, ?_⟩) (by assumption) ?_
      rotate_left
      · (intro w hSw; (try dsimp only at hSw); first | (go_simp; done) | (go_simp; with_reducible rfl))
      try simp only [Act.put, List.setIfInBounds_toArray, List.set_cons_zero, List.set_cons_succ]
      refine wpAnyT_step (i := 15) (by kernel_rfl) rfl (fun K hK => ?_)
      go_simp
      refine hK.out _ _ ⟨(World.cell?_alloc_lt _ _ ⟨g, 2, none⟩ hgz).trans x2, (World.cell?_alloc_lt _ _ ⟨g, 0, none⟩ hgz).trans x0, (World.cell?_alloc_lt _ _ ⟨g, 1, none⟩ hgz).trans x1, (World.cell?_alloc_lt _ _ ⟨w.heap.size, 0, none⟩ hwz).trans y0, (World.cell?_alloc_lt _ _ ⟨w.heap.size, 1, none⟩ hwz).trans y1⟩ ?_
      clear hK K
      try simp only [Act.put, List.setIfInBounds_toArray, List.set_cons_zero, List.set_cons_succ]
      refine wpAnyT_step (i := 16) (by kernel_rfl) rfl (fun K hK => ?_)
      (refine step_append_rd _ (by rfl) (.tmp 41) (.tmp 52) 37 (by rfl) B 36 i0 _ 4 32 Tryd.underlying37 hi0 hz0 hz1 hz2 rfl (by omega) (.slice A xs.length cap) xs.length (icellsL xs) (by rfl) (ho0.alloc _) _ (some ⟨w0.heap.size, 0, none⟩) 1 1 (icells ⟨mv, mc, c, r⟩) (by rfl) (rd_new4 _ _ _) (by intro u hu; simp [icells] at hu; rcases hu with rfl | rfl | rfl | rfl <;> rfl) (by unfold maxLen; omega) (by omega) (by have := Hz.out; simp; omega) ?_; intro v4 w4 ho4 hg4 hat4; obtain ⟨A4, c4, rfl⟩ := ownsRow_form ho4; have hk4 := Blk.grown (Blk.alloc (w := w0.drewN (nq + 1)) hk0 _) hg4 (Ne.symm Hn.out); have hwb4 := Blk.grown (Blk.alloc (w := w0.drewN (nq + 1)) hwb _) hg4 (Ne.symm Hn2.out))
      refine hK.out _ _ ⟨hk4.cell 2, hk4.cell 0, hk4.cell 1, hwb4.cell 0, hwb4.cell 1⟩ ?_
      clear hK K
      try simp only [Act.put, List.setIfInBounds_toArray, List.set_cons_zero, List.set_cons_succ]
      have g2 : w4.cell? ⟨g, 2, none⟩ = some (.slice A xs.length cap) := hk4.cell 2
      have f2 : w4.frozen? ⟨g, 2, none⟩ = false := hk4.frozen 2
      refine wpAnyT_seq 17 (by omega) (by rfl) (by kernel_rfl) ?_
      simp only [List.drop_succ_cons, List.drop_zero]
      go_wp2_with fail
      refine NoPanic.normal ?_
      go_wp2_with fail
      all_goals
        have hlen : (xs ++ putQ (c) (r) (mv) (mc)).length = xs.length + 1 := by rw [HQ.out]; simp
        have hbut4 : But B g w w4 := hbut.trans ⟨hg4.os, hg4.tape, hg4.output, Nat.le_trans (by simp) hg4.size, fun k hk hne => (hg4.block k (by have := Hz.out; simp; omega) (fun e => by have := (ho0.lt _ e.symm).1; omega)).trans (Below.heap_alloc _ _ _ (by have := Hz.out; simp; omega))⟩
        have hfin : LayW (w4.setCell ⟨g, 2, none⟩ (.slice A4 (xs.length + 1) c4)) g B (c) (r) (xs ++ putQ (c) (r) (mv) (mc)) := by
          refine ⟨A4, c4, ?_, ?_, hgB, by rw [World.size_setCell]; have := hbut4.size; omega⟩
          · rw [hlen]; exact hk4.set_ 2 _
          · rw [hlen, HQ.out, icellsL_append, icellsL_one]
            exact ownsRow_setCell_below ho4 (by show g < B; exact hgB) _
        have hb5 := hbut4.set 2 (.slice A4 (xs.length + 1) c4)
        clear hlen hbut4
        go_end0
        exact ⟨rfl, hfin, hb5⟩

end Go.Proofs.YtbccnfgceabopaaDoor
