/- The building of the solver: what holds while its parts come up in whatever order. -/
import Derived.Test.YthabkpkgocafoaaLeastG
import Derived.Test.YthabkpkgocafoaaLeastF
import Derived.Test.YthabkpkgocafoaaSlotsB
namespace Go.Proofs.Ythabkpkgocafoaa
set_option linter.unusedVariables false
set_option linter.unusedSimpArgs false
open Go.RowKit

theorem ready_1 {R : List Nat} {P : Nat → Prop} (x : Nat) (h : R = [x]) (hx : P x) : R ≠ [] ∧ ∀ i ∈ R, P i := by
  rw [h]; exact ⟨by simp, fun i hi => by rw [List.mem_singleton.1 hi]; exact hx⟩
theorem ready_2 {R : List Nat} {P : Nat → Prop} (x y : Nat) (h : R = [x, y]) (hx : P x) (hy : P y) : R ≠ [] ∧ ∀ i ∈ R, P i := by
  rw [h]
  refine ⟨by simp, fun i hi => ?_⟩
  simp only [List.mem_cons, List.not_mem_nil, or_false] at hi
  rcases hi with rfl | rfl
  · exact hx
  · exact hy
theorem ready_3 {R : List Nat} {P : Nat → Prop} (x y z : Nat) (h : R = [x, y, z]) (hx : P x) (hy : P y) (hz : P z) : R ≠ [] ∧ ∀ i ∈ R, P i := by
  rw [h]
  refine ⟨by simp, fun i hi => ?_⟩
  simp only [List.mem_cons, List.not_mem_nil, or_false] at hi
  rcases hi with rfl | rfl | rfl
  · exact hx
  · exact hy
  · exact hz
theorem put_get (a : Act) {d k : Nat} (v : Value) (h : d ≠ k) : (a.put (some d) v).tmps[k]? = a.tmps[k]? := by
  simp [Act.put, Array.getElem?_setIfInBounds_ne h]
theorem put_new (a : Act) {d : Nat} (v : Value) (h : d < a.tmps.size) : (a.put (some d) v).tmps[d]? = some v := by
  simp [Act.put, h]
theorem put_size (a : Act) (d : Nat) (v : Value) : (a.put (some d) v).tmps.size = a.tmps.size := by simp [Act.put]

/-- the slots that stay -/
structure JT (bn N nl cl c : Nat) (Al : Option Addr) (ad : Addr) (a : Act) : Prop where
  sz : a.tmps.size = 97
  df : a.defers = []
  t1 : a.tmps[1]? = some (.slice (some ad) N c)
  t2 : a.tmps[2]? = some (.slice Al nl cl)
  t3 : a.tmps[3]? = some (.pointer (some ⟨bn, 0, none⟩))
  t6 : a.tmps[6]? = some (.slice none 0 0)
  t7 : a.tmps[7]? = some (.slice none 0 0)
  t8 : a.tmps[8]? = some (.int .i64 0)
  t45 : a.tmps[45]? = some (.slice Al nl cl)
  t46 : a.tmps[46]? = some (.slice (some ad) N c)
  t47 : a.tmps[47]? = some (.slice (some ad) N c)
  t50 : a.tmps[50]? = some (.int .i64 N)
  t52 : a.tmps[52]? = some (.int .i64 N)
theorem JT.put {bn N nl cl c : Nat} {Al : Option Addr} {ad : Addr} {a : Act} (h : JT bn N nl cl c Al ad a) (d : Nat) (v : Value) (hd : d ∉ [1, 2, 3, 6, 7, 8, 45, 46, 47, 50, 52]) : JT bn N nl cl c Al ad (a.put (some d) v) := by
  simp only [List.mem_cons, List.not_mem_nil, or_false, not_or] at hd
  obtain ⟨h1, h2, h3, h6, h7, h8, h45, h46, h47, h50, h52⟩ := hd
  exact ⟨by rw [put_size]; exact h.sz, h.df, (put_get a v h1).trans h.t1, (put_get a v h2).trans h.t2, (put_get a v h3).trans h.t3, (put_get a v h6).trans h.t6, (put_get a v h7).trans h.t7, (put_get a v h8).trans h.t8, (put_get a v h45).trans h.t45, (put_get a v h46).trans h.t46, (put_get a v h47).trans h.t47, (put_get a v h50).trans h.t50, (put_get a v h52).trans h.t52⟩

def p3 (w1 : World) (N : Nat) (lv : List Int) (I ci : Nat) (a : Act) (w : World) : Prop := a.tmps[48]? = some (.slice (some ⟨I, 0, none⟩) N ci) ∧ w.ownsRow w1.heap.size 27 1 (.slice (some ⟨I, 0, none⟩) N ci) N (lv.map (Value.int .u8)) ∧ I < w.heap.size
def p4 (w1 : World) (G : Nat) (a : Act) (w : World) : Prop := a.tmps[49]? = some (.slice (some ⟨G, 0, none⟩) 1 1) ∧ w.cell? ⟨G, 0, none⟩ = some (.int .i64 (-1)) ∧ G < w.heap.size
def p6 (w1 : World) (N : Nat) (Y : Nat) (a : Act) (w : World) : Prop := a.tmps[51]? = some (.slice (some ⟨Y, 0, none⟩) N N) ∧ Blk w Y 3 (List.replicate N (Value.int .i64 (-1))).toArray ∧ w1.heap.size ≤ Y
def p8 (w1 : World) (N : Nat) (F : Nat) (a : Act) (w : World) : Prop := a.tmps[53]? = some (.slice (some ⟨F, 0, none⟩) N N) ∧ Blk w F 23 (List.replicate N (Value.slice none 0 0)).toArray ∧ w1.heap.size ≤ F
structure JS (w1 : World) (bn N nl cl c : Nat) (Al : Option Addr) (ad : Addr) (lv : List Int) (b3 b4 b6 b8 : Bool) (a : Act) (w : World) : Prop where
  jt : JT bn N nl cl c Al ad a
  bel : Below w1.heap.size w1 w
  ex : ∃ I ci G Y F, (b3 = true → p3 w1 N lv I ci a w) ∧ (b4 = true → p4 w1 G a w) ∧ (b6 = true → p6 w1 N Y a w) ∧ (b8 = true → p8 w1 N F a w) ∧ (b3 = true → b6 = true → I ≠ Y) ∧ (b3 = true → b8 = true → I ≠ F) ∧ (b6 = true → b8 = true → Y ≠ F)
section
variable {w1 w w' : World} {bn N nl cl c : Nat} {Al : Option Addr} {ad : Addr} {lv : List Int} {b3 b4 b6 b8 : Bool} {a : Act} {I ci G Y F : Nat}
theorem p3.on (h : p3 w1 N lv I ci a w) (hb : Below w.heap.size w w') (d : Nat) (v : Value) (hd : d ≠ 48) : p3 w1 N lv I ci (a.put (some d) v) w' := ⟨(put_get a v hd).trans h.1, ownsRow_beyond h.2.1 hb, Nat.lt_of_lt_of_le h.2.2 hb.size⟩
theorem p4.on (h : p4 w1 G a w) (hb : Below w.heap.size w w') (d : Nat) (v : Value) (hd : d ≠ 49) : p4 w1 G (a.put (some d) v) w' := ⟨(put_get a v hd).trans h.1, (hb.cell (p := ⟨G, 0, none⟩) h.2.2).trans h.2.1, Nat.lt_of_lt_of_le h.2.2 hb.size⟩
theorem p6.on (h : p6 w1 N Y a w) (hb : Below w.heap.size w w') (d : Nat) (v : Value) (hd : d ≠ 51) : p6 w1 N Y (a.put (some d) v) w' := ⟨(put_get a v hd).trans h.1, h.2.1.below hb h.2.1.lt, h.2.2⟩
theorem p8.on (h : p8 w1 N F a w) (hb : Below w.heap.size w w') (d : Nat) (v : Value) (hd : d ≠ 53) : p8 w1 N F (a.put (some d) v) w' := ⟨(put_get a v hd).trans h.1, h.2.1.below hb h.2.1.lt, h.2.2⟩

theorem JS.put3 (h : JS w1 bn N nl cl c Al ad lv false b4 b6 b8 a w) (hb : Below w.heap.size w w') (ho : w'.ownsRow w.heap.size 27 1 (.slice (some ⟨I, 0, none⟩) N ci) N (lv.map (Value.int .u8))) : JS w1 bn N nl cl c Al ad lv true b4 b6 b8 (a.put (some 48) (.slice (some ⟨I, 0, none⟩) N ci)) w' := by
  obtain ⟨jt, bel, I0, ci0, G, Y, F, h3, h4, h6, h8, e1, e2, e3⟩ := h
  have hI := ownsRow_lt ho (b := I) rfl
  have how : w'.ownsRow w1.heap.size 27 1 (.slice (some ⟨I, 0, none⟩) N ci) N (lv.map (Value.int .u8)) := by
    refine ⟨ho.1, ?_⟩
    rcases ho.2 with q | ⟨g, cap, cur, q1, q2, q3⟩
    · exact Or.inl q
    · exact Or.inr ⟨g, cap, cur, q1, Nat.le_trans bel.size q2, q3⟩
  refine ⟨jt.put 48 _ (by decide), bel.trans (hb.mono bel.size), I, ci, G, Y, F, fun _ => ⟨put_new a _ (by rw [jt.sz]; omega), how, hI.2⟩, fun q => (h4 q).on hb _ _ (by omega), fun q => (h6 q).on hb _ _ (by omega), fun q => (h8 q).on hb _ _ (by omega), fun _ q => ?_, fun _ q => ?_, e3⟩
  · have := (h6 q).2.1.lt; omega
  · have := (h8 q).2.1.lt; omega
theorem JS.put4 (h : JS w1 bn N nl cl c Al ad lv b3 false b6 b8 a w) (hb : Below w.heap.size w w') (hc : w'.cell? ⟨G, 0, none⟩ = some (.int .i64 (-1))) : JS w1 bn N nl cl c Al ad lv b3 true b6 b8 (a.put (some 49) (.slice (some ⟨G, 0, none⟩) 1 1)) w' := by
  obtain ⟨jt, bel, I, ci, G0, Y, F, h3, h4, h6, h8, e1, e2, e3⟩ := h
  exact ⟨jt.put 49 _ (by decide), bel.trans (hb.mono bel.size), I, ci, G, Y, F, fun q => (h3 q).on hb _ _ (by omega), fun _ => ⟨put_new a _ (by rw [jt.sz]; omega), hc, block_lt_of_cell hc⟩, fun q => (h6 q).on hb _ _ (by omega), fun q => (h8 q).on hb _ _ (by omega), e1, e2, e3⟩
theorem JS.put6 (h : JS w1 bn N nl cl c Al ad lv b3 b4 false b8 a w) (hb : Below w.heap.size w w') (hk : Blk w' Y 3 (List.replicate N (Value.int .i64 (-1))).toArray) (hY : w.heap.size ≤ Y) : JS w1 bn N nl cl c Al ad lv b3 b4 true b8 (a.put (some 51) (.slice (some ⟨Y, 0, none⟩) N N)) w' := by
  obtain ⟨jt, bel, I, ci, G, Y0, F, h3, h4, h6, h8, e1, e2, e3⟩ := h
  refine ⟨jt.put 51 _ (by decide), bel.trans (hb.mono bel.size), I, ci, G, Y, F, fun q => (h3 q).on hb _ _ (by omega), fun q => (h4 q).on hb _ _ (by omega), fun _ => ⟨put_new a _ (by rw [jt.sz]; omega), hk, Nat.le_trans bel.size hY⟩, fun q => (h8 q).on hb _ _ (by omega), fun q _ => ?_, e2, fun _ q => ?_⟩
  · have := (h3 q).2.2; omega
  · have := (h8 q).2.1.lt; omega
theorem JS.put8 (h : JS w1 bn N nl cl c Al ad lv b3 b4 b6 false a w) (hb : Below w.heap.size w w') (hk : Blk w' F 23 (List.replicate N (Value.slice none 0 0)).toArray) (hF : w.heap.size ≤ F) : JS w1 bn N nl cl c Al ad lv b3 b4 b6 true (a.put (some 53) (.slice (some ⟨F, 0, none⟩) N N)) w' := by
  obtain ⟨jt, bel, I, ci, G, Y, F0, h3, h4, h6, h8, e1, e2, e3⟩ := h
  refine ⟨jt.put 53 _ (by decide), bel.trans (hb.mono bel.size), I, ci, G, Y, F, fun q => (h3 q).on hb _ _ (by omega), fun q => (h4 q).on hb _ _ (by omega), fun q => (h6 q).on hb _ _ (by omega), fun _ => ⟨put_new a _ (by rw [jt.sz]; omega), hk, Nat.le_trans bel.size hF⟩, e1, fun q _ => ?_, fun q _ => ?_⟩
  · have := (h3 q).2.2; omega
  · have := (h6 q).2.1.lt; omega
theorem JS.drew (h : JS w1 bn N nl cl c Al ad lv b3 b4 b6 b8 a w) : JS w1 bn N nl cl c Al ad lv b3 b4 b6 b8 a w.drew := by
  obtain ⟨jt, bel, I, ci, G, Y, F, h3, h4, h6, h8, e1, e2, e3⟩ := h
  exact ⟨jt, bel.drew, I, ci, G, Y, F, fun q => h3 q, fun q => h4 q, fun q => h6 q, fun q => h8 q, e1, e2, e3⟩
end

theorem JS.start {w1 w : World} {bn N nl cl c : Nat} {Al : Option Addr} {ad : Addr} {lv : List Int} {a : Act} (h : JT bn N nl cl c Al ad a) (hb : Below w1.heap.size w1 w) : JS w1 bn N nl cl c Al ad lv false false false false a w :=
  ⟨h, hb, 0, 0, 0, 0, 0, fun h => Bool.noConfusion h, fun h => Bool.noConfusion h, fun h => Bool.noConfusion h, fun h => Bool.noConfusion h, fun h => Bool.noConfusion h, fun h => Bool.noConfusion h, fun h => Bool.noConfusion h⟩

/-- the parts by what is listed -/
def JL (w1 : World) (bn N nl cl c : Nat) (Al : Option Addr) (ad : Addr) (lv : List Int) (m : Nat) (l : Array Bool) (a : Act) (w : World) : Prop :=
  ∃ b3 b4 b6 b8 : Bool, l = #[true, true, true, b3, b4, true, b6, true, b8, false, false, false] ∧ (b6 = true → b3 = true ∧ b4 = true) ∧ m + b3.toNat + b4.toNat + b6.toNat + b8.toNat = 4 ∧ JS w1 bn N nl cl c Al ad lv b3 b4 b6 b8 a w

end Go.Proofs.Ythabkpkgocafoaa
