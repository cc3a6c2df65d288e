/- What the laws of terms share: variables that hold terms, calls on one or two terms side by side. -/
import Derived.Test.YtbccnfgceabopaaLawT
import Derived.Test.YtbccnfgceabopaaBox
import Derived.Test.YtbccnfgceabopaaRefS
import Derived.Test.YtbccnfgceabopaaRowT
namespace Go.Proofs.Ytbccnfgceabopaa
set_option linter.unusedVariables false
set_option linter.unusedSimpArgs false
open Go.RowKit

/-- the world behind what was done: variables that hold terms -/
structure St (w0 w : World) (l : List (Nat × TermD)) : Prop where
  bel : Below w0.heap.size w0 w
  box : ∀ p ∈ l, BoxT w p.1 p.2
section
variable {w0 w w' : World} {l : List (Nat × TermD)}
theorem St.start (w : World) : St w w [] := ⟨Below.refl _ _, by simp⟩
theorem St.below (h : St w0 w l) (hb : Below w.heap.size w w') : St w0 w' l := ⟨h.bel.trans (hb.mono h.bel.size), fun p hp => (h.box p hp).below hb⟩
theorem St.alloc (h : St w0 w l) (o : Obj) : St w0 (w.alloc o) l := h.below (below_box o)
theorem St.drew (h : St w0 w l) : St w0 w.drew l := h.below ((Below.refl _ _).drew)
theorem St.new {A : Option Addr} {n c : Nat} (h : St w0 w l) (t : TermD) (hr : RdI .i64 w w.heap.size A n c t.vars) : St w0 (w.alloc (Obj.cells #[.bool t.never, .int .u8 t.c, .slice A n c] 25)) ((w.heap.size, t) :: l) := by
  refine ⟨(h.alloc _).bel, fun p hp => ?_⟩
  rcases List.mem_cons.1 hp with rfl | hp
  · exact BoxT.new t hr
  · exact (h.box p hp).alloc _
theorem St.rd {k : IntKind} {A : Option Addr} {n c : Nat} {us : List Int} (h : St w0 w l) (hr : RdI k w0 w0.heap.size A n c us) : RdI k w w.heap.size A n c us := (hr.below h.bel).more h.bel.size
theorem St.val (h : St w0 w l) (g : Nat) (t : TermD) (hm : (g, t) ∈ l) : ∃ A n c, w.cell? ⟨g, 0, none⟩ = some (.bool t.never) ∧ w.cell? ⟨g, 1, none⟩ = some (.int .u8 t.c) ∧ w.cell? ⟨g, 2, none⟩ = some (.slice A n c) ∧ RdI .i64 w w.heap.size A n c t.vars := by
  obtain ⟨A, n, c, c0, c1, c2, _, _, _, hr⟩ := (h.box (g, t) hm).val
  exact ⟨A, n, c, c0, c1, c2, hr⟩
theorem St.lt (h : St w0 w l) (g : Nat) (t : TermD) (hm : (g, t) ∈ l) : g < w.heap.size := (h.box (g, t) hm).lt
end

theorem terms1 {w : World} {b : Nat} {B : Nat} {x : TermD} {A : Option Addr} {n c : Nat} (h : Blk w b 25 #[.bool x.never, .int .u8 x.c, .slice A n c]) (hb : b < B) (h1 : RdI .i64 w B A n c x.vars) : TermsV w B (some ⟨b, 0, none⟩) 1 1 [x] :=
  ⟨rfl, Nat.le_refl _, by unfold maxLen; omega, fun _ => ⟨b, 0, rfl, hb, fun i hi => by
    match i, hi with
    | 0, _ => exact ⟨A, n, c, h.cell 0, h.cell 1, h.cell 2, h1⟩⟩⟩

section
variable {w : World} {t x y : TermD} {A A' : Option Addr} {n c n' c' : Nat}
theorem great1_any (hr : RdI .i64 w w.heap.size A n c t.vars) :
    Calls Try.prog 7 #[.slice (some ⟨w.heap.size, 0, none⟩) 1 1] (w.alloc (Obj.cells #[.bool t.never, .int .u8 t.c, .slice A n c] 25)) fun e w' => e = .returned (.bool (greatB [t])) ∧ Below w.heap.size w w' := by
  have hb := below_box (w := w) (Obj.cells #[.bool t.never, .int .u8 t.c, .slice A n c] 25)
  exact (great_any _ 1 1 [t] _ (terms1 (blk_new _ _ _) (by simp) (hr.fresh hb (Nat.le_refl _))) (by omega)).mono fun e w' ⟨h1, h2⟩ => ⟨h1, hb.trans (h2.mono hb.size)⟩
theorem terms2_new (hx : RdI .i64 w w.heap.size A n c x.vars) (hy : RdI .i64 w w.heap.size A' n' c' y.vars) :
    TermsV (w.alloc (Obj.cells #[.bool x.never, .int .u8 x.c, .slice A n c, .bool y.never, .int .u8 y.c, .slice A' n' c'] 25)) (w.alloc (Obj.cells #[.bool x.never, .int .u8 x.c, .slice A n c, .bool y.never, .int .u8 y.c, .slice A' n' c'] 25)).heap.size (some ⟨w.heap.size, 0, none⟩) 2 2 [x, y] := by
  have hb := below_box (w := w) (Obj.cells #[.bool x.never, .int .u8 x.c, .slice A n c, .bool y.never, .int .u8 y.c, .slice A' n' c'] 25)
  exact terms2 (blk_new _ _ _) (by simp) (hx.fresh hb (Nat.le_refl _)) (hy.fresh hb (Nat.le_refl _))
theorem great2_any (hx : RdI .i64 w w.heap.size A n c x.vars) (hy : RdI .i64 w w.heap.size A' n' c' y.vars) :
    Calls Try.prog 7 #[.slice (some ⟨w.heap.size, 0, none⟩) 2 2] (w.alloc (Obj.cells #[.bool x.never, .int .u8 x.c, .slice A n c, .bool y.never, .int .u8 y.c, .slice A' n' c'] 25)) fun e w' => e = .returned (.bool (greatB [x, y])) ∧ Below w.heap.size w w' := by
  have hb := below_box (w := w) (Obj.cells #[.bool x.never, .int .u8 x.c, .slice A n c, .bool y.never, .int .u8 y.c, .slice A' n' c'] 25)
  exact (great_any _ 2 2 [x, y] _ (terms2_new hx hy) (by omega)).mono fun e w' ⟨h1, h2⟩ => ⟨h1, hb.trans (h2.mono hb.size)⟩
theorem join_any_t (A : Option Addr) (n c : Nat) (ts : List TermD) (w : World) (hr : TermsV w w.heap.size A n c ts) (hn : n ≤ 1099511627776) (hsum : (joinVs ts).length ≤ 1099511627776) :
    Calls Try.prog 14 #[.slice A n c] w (RetTE (if allMay ts then joinT ts else zeroT) (if allMay ts then 0 else 2) w) := by
  cases h : allMay ts
  · exact join_no A n c ts w hr h
  · exact join_yes A n c ts w hr h hn hsum
theorem sum_any_t (A : Option Addr) (n c : Nat) (ts : List TermD) (w : World) (hr : TermsV w w.heap.size A n c ts) (hn : n ≤ 1099511627776) (hsum : ∀ t ∈ ts, t.vars.length ≤ 1099511627776) :
    Calls Try.prog 15 #[.slice A n c] w (RetTE (if allMay ts then sumT ts else zeroT) (if allMay ts then 0 else 2) w) := by
  cases h : allMay ts
  · exact sum_no A n c ts w hr h
  · exact sum_yes A n c ts w hr h hn hsum
theorem RetTE.before {T : TermD} {E : Int} {w w1 : World} (hb : Below w.heap.size w w1) {e : Ending} {w' : World} (h : RetTE T E w1 e w') : RetTE T E w e w' := by
  obtain ⟨A, n, c, he, hr, hb'⟩ := h
  exact ⟨A, n, c, he, hr, hb.trans (hb'.mono hb.size)⟩
theorem join2_any (hx : RdI .i64 w w.heap.size A n c x.vars) (hy : RdI .i64 w w.heap.size A' n' c' y.vars) (hg : greatB [x, y] = false) :
    Calls Try.prog 14 #[.slice (some ⟨w.heap.size, 0, none⟩) 2 2] (w.alloc (Obj.cells #[.bool x.never, .int .u8 x.c, .slice A n c, .bool y.never, .int .u8 y.c, .slice A' n' c'] 25)) (RetTE (if allMay [x, y] then joinT [x, y] else zeroT) (if allMay [x, y] then 0 else 2) w) :=
  (join_any_t _ 2 2 [x, y] _ (terms2_new hx hy) (by omega) (Nat.le_trans (great_sum hg) (by omega))).mono fun e w' h => h.before (below_box _)
theorem sum2_any (hx : RdI .i64 w w.heap.size A n c x.vars) (hy : RdI .i64 w w.heap.size A' n' c' y.vars) (hg : greatB [x, y] = false) :
    Calls Try.prog 15 #[.slice (some ⟨w.heap.size, 0, none⟩) 2 2] (w.alloc (Obj.cells #[.bool x.never, .int .u8 x.c, .slice A n c, .bool y.never, .int .u8 y.c, .slice A' n' c'] 25)) (RetTE (if allMay [x, y] then sumT [x, y] else zeroT) (if allMay [x, y] then 0 else 2) w) :=
  (sum_any_t _ 2 2 [x, y] _ (terms2_new hx hy) (by omega) (fun t ht => Nat.le_trans (great_vars hg t ht) (by omega))).mono fun e w' h => h.before (below_box _)
end

end Go.Proofs.Ytbccnfgceabopaa
