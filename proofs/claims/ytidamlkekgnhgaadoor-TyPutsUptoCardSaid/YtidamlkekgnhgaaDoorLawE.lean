/- Contracts over types, each with its answer named; two types in boxes of their own. -/
import Derived.Test.YtidamlkekgnhgaaDoorLawD
import Derived.Lib.QuietBelow
namespace Go.Proofs.YtidamlkekgnhgaaDoor
set_option linter.unusedVariables false
set_option linter.unusedSimpArgs false
open Go.RowKit

section
variable {t a b : TyD} {s x : Int} {r : Bool}
theorem refSize_at (hs : sizeW t = s) (A : Option Addr) (m cp : Nat) (w : World) (h : TysV w w.heap.size A m cp t.l) :
    Calls Tryd.prog 18 #[.agg #[.int .u8 t.k, .int .i64 t.n, .int .i64 t.v, .int .u8 t.c, .slice A m cp]] w fun e w' => e = .returned (.int .i64 s) ∧ Below w.heap.size w w' := by
  subst hs
  exact refSize_any t _ w ⟨A, m, cp, rfl, h⟩
theorem tyMay_at (hs : mayTE t = x) (A : Option Addr) (m cp : Nat) (w : World) (h : TysV w w.heap.size A m cp t.l) :
    Calls Tryd.prog 19 #[.agg #[.int .u8 t.k, .int .i64 t.n, .int .i64 t.v, .int .u8 t.c, .slice A m cp]] w fun e w' => e = .returned (.int .i64 x) ∧ Below w.heap.size w w' := by
  subst hs
  exact tyMay_any t _ w ⟨A, m, cp, rfl, h⟩
theorem refTyMay_at (hs : mayTE t = x) (A : Option Addr) (m cp : Nat) (w : World) (h : TysV w w.heap.size A m cp t.l) :
    Calls Tryd.prog 20 #[.agg #[.int .u8 t.k, .int .i64 t.n, .int .i64 t.v, .int .u8 t.c, .slice A m cp]] w fun e w' => e = .returned (.int .i64 x) ∧ Below w.heap.size w w' := by
  subst hs
  exact refTyMay_any t _ w ⟨A, m, cp, rfl, h⟩
theorem same_at (hs : sameT a b = r) (A : Option Addr) (m cp : Nat) (A' : Option Addr) (m' cp' : Nat) (w : World) (h : TysV w w.heap.size A m cp a.l) (h' : TysV w w.heap.size A' m' cp' b.l) :
    Calls Tryd.prog 21 #[.agg #[.int .u8 a.k, .int .i64 a.n, .int .i64 a.v, .int .u8 a.c, .slice A m cp], .agg #[.int .u8 b.k, .int .i64 b.n, .int .i64 b.v, .int .u8 b.c, .slice A' m' cp']] w fun e w' => e = .returned (.bool r) ∧ Below w.heap.size w w' := by
  subst hs
  exact same_go _ a b (Nat.le_refl _) A m cp A' m' cp' w h h'
theorem refSame_at (hs : sameT a b = r) (A : Option Addr) (m cp : Nat) (A' : Option Addr) (m' cp' : Nat) (w : World) (h : TysV w w.heap.size A m cp a.l) (h' : TysV w w.heap.size A' m' cp' b.l) :
    Calls Tryd.prog 22 #[.agg #[.int .u8 a.k, .int .i64 a.n, .int .i64 a.v, .int .u8 a.c, .slice A m cp], .agg #[.int .u8 b.k, .int .i64 b.n, .int .i64 b.v, .int .u8 b.c, .slice A' m' cp']] w fun e w' => e = .returned (.bool r) ∧ Below w.heap.size w w' := by
  subst hs
  exact refSame_go _ a b (Nat.le_refl _) A m cp A' m' cp' w h h'
theorem great_at {l : List TyD} (hs : greatB l = r) (A : Option Addr) (m cp : Nat) (w : World) (hl : TysV w w.heap.size A m cp l) :
    Calls Tryd.prog 16 #[.slice A m cp] w fun e w' => e = .returned (.bool r) ∧ Below w.heap.size w w' := by
  subst hs
  exact great_any l A m cp w hl
end
theorem TysV.fresh {w w' : World} {A : Option Addr} {m cp : Nat} {l : List TyD} (h : TysV w w.heap.size A m cp l) (hb : Below w.heap.size w w') : TysV w' w'.heap.size A m cp l := (h.below hb).more hb.size
theorem TysV.regrown {w : World} {A : Option Addr} {m cp : Nat} {l : List TyD} (h : TysV w w.heap.size A m cp l) (d : Nat) (os : Array Obj) : TysV (Sort.grow (redrawn w d) os) (Sort.grow (redrawn w d) os).heap.size A m cp l := h.fresh (below_regrown w d os)
theorem Tab.regrown {w : World} (h : Tab w) (d : Nat) (os : Array Obj) : Tab (Sort.grow (redrawn w d) os) := h.below (below_regrown w d os)
/-- two types, each in a block, and both in a row -/
structure Two (a b : TyD) (A : Option Addr) (m cp : Nat) (A' : Option Addr) (m' cp' : Nat) (w W : World) : Prop where
  eq : ((w.alloc (Obj.cells #[.int .u8 a.k, .int .i64 a.n, .int .i64 a.v, .int .u8 a.c, .slice A m cp] 27)).alloc (Obj.cells #[.int .u8 b.k, .int .i64 b.n, .int .i64 b.v, .int .u8 b.c, .slice A' m' cp'] 27)).alloc (Obj.cells #[.int .u8 a.k, .int .i64 a.n, .int .i64 a.v, .int .u8 a.c, .slice A m cp, .int .u8 b.k, .int .i64 b.n, .int .i64 b.v, .int .u8 b.c, .slice A' m' cp'] 27) = W
  bel : Below w.heap.size w W
  size : W.heap.size = w.heap.size + 1 + 1 + 1
  ba : Blk W w.heap.size 27 #[.int .u8 a.k, .int .i64 a.n, .int .i64 a.v, .int .u8 a.c, .slice A m cp]
  bb : Blk W (w.heap.size + 1) 27 #[.int .u8 b.k, .int .i64 b.n, .int .i64 b.v, .int .u8 b.c, .slice A' m' cp']
  ta : TysV W W.heap.size A m cp a.l
  tb : TysV W W.heap.size A' m' cp' b.l
  row : TysV W W.heap.size (some ⟨w.heap.size + 1 + 1, 0, none⟩) 2 2 [a, b]
theorem two_new (a b : TyD) (A : Option Addr) (m cp : Nat) (A' : Option Addr) (m' cp' : Nat) (w : World) (h : TysV w w.heap.size A m cp a.l) (h' : TysV w w.heap.size A' m' cp' b.l) : ∃ W, Two a b A m cp A' m' cp' w W := by
  obtain ⟨w1, hw1⟩ : ∃ W, w.alloc (Obj.cells #[.int .u8 a.k, .int .i64 a.n, .int .i64 a.v, .int .u8 a.c, .slice A m cp] 27) = W := ⟨_, rfl⟩
  have hb1 := below_box (w := w) (Obj.cells #[.int .u8 a.k, .int .i64 a.n, .int .i64 a.v, .int .u8 a.c, .slice A m cp] 27)
  have hn1 := blk_new w #[.int .u8 a.k, .int .i64 a.n, .int .i64 a.v, .int .u8 a.c, .slice A m cp] 27
  have hs1 : w1.heap.size = w.heap.size + 1 := by rw [← hw1]; simp
  obtain ⟨w2, hw2⟩ : ∃ W, w1.alloc (Obj.cells #[.int .u8 b.k, .int .i64 b.n, .int .i64 b.v, .int .u8 b.c, .slice A' m' cp'] 27) = W := ⟨_, rfl⟩
  have hb2 := below_box (w := w1) (Obj.cells #[.int .u8 b.k, .int .i64 b.n, .int .i64 b.v, .int .u8 b.c, .slice A' m' cp'] 27)
  have hn2 := blk_new w1 #[.int .u8 b.k, .int .i64 b.n, .int .i64 b.v, .int .u8 b.c, .slice A' m' cp'] 27
  have hs2 : w2.heap.size = w.heap.size + 1 + 1 := by rw [← hw2]; simp [hs1]
  obtain ⟨W, hW⟩ : ∃ W, w2.alloc (Obj.cells #[.int .u8 a.k, .int .i64 a.n, .int .i64 a.v, .int .u8 a.c, .slice A m cp, .int .u8 b.k, .int .i64 b.n, .int .i64 b.v, .int .u8 b.c, .slice A' m' cp'] 27) = W := ⟨_, rfl⟩
  have hb3 := below_box (w := w2) (Obj.cells #[.int .u8 a.k, .int .i64 a.n, .int .i64 a.v, .int .u8 a.c, .slice A m cp, .int .u8 b.k, .int .i64 b.n, .int .i64 b.v, .int .u8 b.c, .slice A' m' cp'] 27)
  have hn3 := blk_new w2 #[.int .u8 a.k, .int .i64 a.n, .int .i64 a.v, .int .u8 a.c, .slice A m cp, .int .u8 b.k, .int .i64 b.n, .int .i64 b.v, .int .u8 b.c, .slice A' m' cp'] 27
  have hs3 : W.heap.size = w.heap.size + 1 + 1 + 1 := by rw [← hW]; simp [hs2]
  rw [hw1] at hb1 hn1
  rw [hw2] at hb2 hn2
  rw [hW] at hb3 hn3
  rw [hs1] at hn2
  rw [hs2] at hn3
  have hb := (hb1.trans (hb2.mono hb1.size)).trans (hb3.mono (by omega))
  exact ⟨W, by rw [hw1, hw2, hW], hb, hs3, (hn1.below hb2 (by omega)).below hb3 (by omega), hn2.below hb3 (by omega), h.fresh hb, h'.fresh hb, ty2_new hn3 (by omega) (h.fresh hb) (h'.fresh hb)⟩
/-! ### how long a text is -/
theorem itoa_len {n : Int} (h0 : 0 ≤ n) (h1 : n < 1048576) : (Lib.itoa n).length ≤ 21 := Lib.itoa_length_le n (by omega) (by omega)
theorem par_len (b : Bool) (s : List UInt8) : (txPar b s).length ≤ s.length + 2 := by
  unfold txPar
  cases b <;> simp
theorem mark_len {v c : Int} (h : isB c v = true) : (txMark v c).length ≤ 26 := by
  unfold txMark
  rcases isB_cases h with ⟨rfl, h0⟩ | ⟨rfl, hc⟩
  · have h1 : v < 1048576 := by
      unfold isB oneB at h
      simp only [Bool.or_eq_true, Bool.and_eq_true, beq_iff_eq, decide_eq_true_eq] at h
      omega
    have := itoa_len h0 h1
    simp only [if_true, List.length_append, List.length_cons, List.length_nil]
    omega
  · rw [if_neg (by omega)]
    rcases mtext_list hc with ⟨_, e⟩ | ⟨_, e⟩ | ⟨_, e⟩ <;> rw [e] <;> simp
theorem ba_len (x : ByteArray) : x.data.toList.length = x.size := by rw [Array.length_toList]; rfl
theorem funL_two (ws : List ByteArray) (mk : List UInt8) (a b : TyD) : txB.funL ws mk 0 [a, b] = txPar (a.k == 7) (txB ws a) ++ (mk ++ txB ws b) := by
  rw [txB.funL, txB.funL, txB.funL]
  simp [txPar]
theorem text_len {ws : List ByteArray} {M : Nat} (hM : ∀ x ∈ ws, x.size ≤ M) {t : TyD} (ht : mayT t = true) : (txB ws t).length ≤ (M + 64) * nodes t := by
  revert ht
  induction t using ty_ind with
  | h t ih =>
    intro ht
    have f := may_facts ht
    have hr := mayT_range ht
    have hi := itoa_len hr.1 hr.2
    have hn1 : 1 ≤ nodes t := by rw [nodes_eq]; omega
    have hmul : M + 64 ≤ (M + 64) * nodes t := Nat.le_mul_of_pos_right _ hn1
    rw [txB_eq]
    by_cases k1 : t.k = 1
    · rw [if_pos k1]; simp only [List.length_cons]; omega
    rw [if_neg k1]
    by_cases k2 : t.k = 2
    · rw [if_pos k2]; simp only [List.length_cons, List.length_nil]; omega
    rw [if_neg k2]
    by_cases k3 : t.k = 3
    · rw [if_pos k3]; simp only [List.length_cons, List.length_nil]; omega
    rw [if_neg k3]
    by_cases k4 : t.k = 4
    · rw [if_pos k4]; simp only [List.length_cons, List.length_nil]; omega
    rw [if_neg k4]
    by_cases k5 : t.k = 5
    · rw [if_pos k5]; simp only [List.length_cons, List.length_nil]; omega
    rw [if_neg k5]
    have hnod : (M + 64) * nodes t = (M + 64) + (M + 64) * nodes.nodesL t.l := by rw [nodes_eq, Nat.mul_add, Nat.mul_one]
    by_cases k7 : t.k = 7
    · rw [if_pos k7]
      obtain ⟨a, b, hl⟩ := may_fun ht k7
      have ha := ih a (by rw [hl]; simp) (f.2.2.2.2.2.2 a (by rw [hl]; simp))
      have hb := ih b (by rw [hl]; simp) (f.2.2.2.2.2.2 b (by rw [hl]; simp))
      have hm := mark_len (may_mu ht)
      have p1 := par_len (a.k == 7) (txB ws a)
      have e : txB.funL ws (txMark t.v t.c) 0 t.l = txPar (a.k == 7) (txB ws a) ++ (txMark t.v t.c ++ txB ws b) := by rw [hl]; exact funL_two ws _ a b
      have e2 : (M + 64) * nodes.nodesL t.l = (M + 64) * nodes a + (M + 64) * nodes b := by
        rw [hl]
        simp only [nodes.nodesL, Nat.add_zero]
        rw [Nat.mul_add]
      rw [e, hnod, e2, List.length_append, List.length_append]
      omega
    · rw [if_neg k7, hnod, List.length_append]
      have h1 : (txHead ws t.k t.n).length ≤ M + 25 := by
        unfold txHead
        by_cases k6 : t.k = 6
        · rw [if_pos k6]; simp only [List.length_cons, List.length_nil]; omega
        · rw [if_neg k6]
          by_cases hw : t.n < ws.length
          · rw [if_pos hw]
            have hlt : t.n.toNat < ws.length := by omega
            have : (ws.getD t.n.toNat ByteArray.empty).size ≤ M := by
              rw [List.getD_eq_getElem?_getD, List.getElem?_eq_getElem hlt]
              exact hM _ (List.getElem_mem hlt)
            have e : (ws.getD t.n.toNat ByteArray.empty).data.toList.length = (ws.getD t.n.toNat ByteArray.empty).size := ba_len _
            omega
          · rw [if_neg hw]; simp only [List.length_cons]; omega
      have hlen := mayT_len ht
      have key : ∀ l : List TyD, (∀ x ∈ l, x ∈ t.l) → (txB.dataL ws l).length ≤ 3 * l.length + (M + 64) * nodes.nodesL l := by
        intro l
        induction l with
        | nil => intro _; rw [txB.dataL]; simp
        | cons x l ihl =>
          intro hl
          have h2 := ih x (hl x (by simp)) (f.2.2.2.2.2.2 x (hl x (by simp)))
          have h3 := ihl (fun y hy => hl y (List.mem_cons_of_mem _ hy))
          have p1 := par_len (txIn x) (txB ws x)
          rw [txB.dataL, nodes.nodesL, Nat.mul_add]
          simp only [List.length_append, List.length_cons]
          omega
      have := key t.l (fun _ h => h)
      omega
theorem ws2_size : ∀ x ∈ ws2, x.size ≤ 4 := by decide
theorem mayTE_facts {t : TyD} (h : mayTE t = 0) : mayT t = true ∧ sizeW t ≤ 300 := by
  unfold mayTE at h
  by_cases h1 : 300 < sizeW t
  · rw [if_pos h1] at h; exact absurd h (by decide)
  · rw [if_neg h1] at h
    cases hm : mayT t
    · rw [hm] at h; exact absurd h (by decide)
    · exact ⟨rfl, by omega⟩
theorem mayTE_ok {t : TyD} (h : mayT t = true) (hs : nodes t ≤ 300) : mayTE t = 0 := by
  unfold mayTE
  rw [sizeW_small (by omega), if_neg (by omega), if_pos h]
/-- what may be is small, if what came in is no greater than a machine holds -/
theorem may_small {t : TyD} (h : mayTE t = 0) (hb : nodes t ≤ 1048576) : nodes t ≤ 300 := by
  have := (mayTE_facts h).2
  rw [sizeW_small (by omega)] at this
  omega
theorem tyText_s {t : TyD} {ws : List ByteArray} {S : ByteArray} (hx : (⟨(txB ws t).toArray⟩ : ByteArray) = S) (hm : mayT t = true) (A : Option Addr) (m cp : Nat) (An : Option Addr) (nn cn : Nat) (w : World) (hl : TysV w w.heap.size A m cp t.l) (hn : NmV w w.heap.size An nn cn ws) (ht : Tab w) (hsz : (txB ws t).length ≤ 140737488355328) :
    Calls Tryd.prog 11 #[.agg #[.int .u8 t.k, .int .i64 t.n, .int .i64 t.v, .int .u8 t.c, .slice A m cp], .slice An nn cn] w fun e w' => e = .returned (.string S) ∧ Below w.heap.size w w' := by
  subst hx
  exact tyText_any t hm ws A m cp An nn cn w hl hn ht hsz
end Go.Proofs.YtidamlkekgnhgaaDoor
