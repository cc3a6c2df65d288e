/- Texts of this claim, laid one behind the other: TwA, TwB, TwC, CelB, TwD. -/
import Derived.Test.YtidamlkekgnhgaaDoorTWb
import Derived.Lib.QuietBelow
import Derived.Test.YtidamlkekgnhgaaDoorOrd
import Derived.Test.YtidamlkekgnhgaaDoorTWc
/- Contracts: usufructref06.at, see, Vars; slices.Equal at ints. -/
namespace Go.Proofs.YtidamlkekgnhgaaDoor
set_option linter.unusedVariables false
set_option linter.unusedSimpArgs false
open Go.RowKit
attribute [local go_sem ↓] Go.wp_at_zero Go.wp_at_succ

set_option maxRecDepth 100000 in
theorem refAt_any (A : Option Addr) (n c : Nat) (us : List Int) (x : Int) (w : World) (B : Nat) (h : RdI .i64 w B A n c us) (r : Int) (hr : idxN us x = r) :
    Calls Tryd.prog 81 #[.slice A n c, .int .i64 x] w fun e w' => e = .returned (.int .i64 r) ∧ Below w.heap.size w w' := by
  subst hr
  have hlen := h.len
  have m63 : n ≤ 9223372036854775807 := Nat.le_trans h.2.1 h.2.2
  have H := Lib.hid h
  clear h
  go_enter Tryd.func81, Tryd.ntmps81
  go_wp2_with fail
  go_loopg [5] n (fun gh i wr => ∃ k : Nat, k ≤ n ∧ gh = n - k ∧ i = .int .i64 k ∧ wr = w ∧ ∀ j (h : j < us.length), j < k → (x == us[j]) = false)
  case atStart => exact ⟨0, Nat.zero_le _, rfl, rfl, rfl, fun j _ hj => absurd hj (by omega)⟩
  case round =>
    obtain ⟨k, hk, rfl, rfl, rfl, hb⟩ := hrel
    by_cases hkm : k < n
    · have d0 : decide (k < n) = true := by simpa using hkm
      have hk' : k < us.length := by omega
      obtain ⟨b, off, rfl, _, hc⟩ := H.out.at_ (by omega)
      have e0 := hc k hk'
      have Hb := Lib.hid hb
      have k1 : (0 : Int) ≤ (k : Int) := by omega
      have k2 : (k : Int) < n := by omega
      clear hc hb
      obtain ⟨y, hy⟩ : ∃ y, us[k] = y := ⟨_, rfl⟩
      rw [hy] at e0
      by_cases hxy : x = y
      · have d1 : (y == x) = true := by simp [hxy]
        have HR : Hid ((k : Int) = idxN us x) := Lib.hid (idxN_at hk' Hb.out (by rw [hy]; simpa using hxy)).symm
        clear hxy hy
        go_wp2_with fail
        go_ret
        exact ⟨ret_int HR.out, Below.refl _ _⟩
      · have d1 : (y == x) = false := by simp; exact fun e => hxy e.symm
        have Hn : Hid (∀ j (h : j < us.length), j < k + 1 → (x == us[j]) = false) := Lib.hid fun j hj hjk => by
          rcases Nat.lt_or_ge j k with h | h
          · exact Hb.out j hj h
          · obtain rfl : j = k := by omega
            rw [hy]; simpa using hxy
        clear hxy hy
        go_wp2_with fail
        go_roundg (n - (k + 1))
        case measure => omega
        case rel => exact ⟨k + 1, by omega, rfl, by go_num, rfl, Hn.out⟩
    · have d0 : decide (k < n) = false := by simpa using hkm
      have HR : Hid ((-1 : Int) = idxN us x) := Lib.hid (idxN_none fun j hj => hb j hj (by omega)).symm
      clear hb
      go_wp2_with fail
      go_ret
      exact ⟨ret_int HR.out, Below.refl _ _⟩

/-- what was seen: two lists, in the block g -/
def SnAt (w : World) (g : Nat) (l1 l2 : List Int) (A1 : Option Addr) (c1 : Nat) (A2 : Option Addr) (c2 : Nat) : Prop :=
  Blk w g 62 #[.slice A1 l1.length c1, .slice A2 l2.length c2] ∧ w.ownsRow (g + 1) 3 1 (.slice A1 l1.length c1) l1.length (l1.map (Value.int .i64)) ∧ w.ownsRow (g + 1) 3 1 (.slice A2 l2.length c2) l2.length (l2.map (Value.int .i64)) ∧ (∀ a b : Addr, A1 = some a → A2 = some b → a.block ≠ b.block)
/-- what stands but for what was seen -/
def SOut (g : Nat) (w w' : World) : Prop :=
  Below g w w' ∧ ∀ k o, w.heap[k]? = some o → k ≠ g → (∀ cs fz, o ≠ .cells cs 3 fz) → w'.heap[k]? = some o
section
variable {g : Nat} {l1 l2 : List Int} {A1 A2 : Option Addr} {c1 c2 : Nat} {w w' w'' : World}
theorem SOut.refl (g : Nat) (w : World) : SOut g w w := ⟨Below.refl _ _, fun _ _ h _ _ => h⟩
theorem SOut.trans (h : SOut g w w') (h2 : SOut g w' w'') : SOut g w w'' := ⟨h.1.trans h2.1, fun k o hk h1 h3 => h2.2 k o (h.2 k o hk h1 h3) h1 h3⟩
theorem SOut.of_below (hs : g ≤ w.heap.size) (h : Below w.heap.size w w') : SOut g w w' := ⟨h.mono hs, fun k o hk _ _ => (h.block k (Array.getElem?_eq_some_iff.1 hk).1).trans hk⟩
theorem Blk.sout {k : Nat} {t : TypeId} {cs : Array Value} (h : Blk w k t cs) (ho : SOut g w w') (h1 : k ≠ g) (ht : t ≠ 3) : Blk w' k t cs :=
  ho.2 k _ h h1 (fun c fz e => by injection e with _ e2 _; exact ht e2)
theorem SnAt.lt (h : SnAt w g l1 l2 A1 c1 A2 c2) : g < w.heap.size := h.1.lt
theorem SnAt.below (h : SnAt w g l1 l2 A1 c1 A2 c2) (hb : Below w.heap.size w w') : SnAt w' g l1 l2 A1 c1 A2 c2 := ⟨h.1.below hb h.1.lt, ownsRow_beyond h.2.1 hb, ownsRow_beyond h.2.2.1 hb, h.2.2.2⟩
theorem SnAt.r1 (h : SnAt w g l1 l2 A1 c1 A2 c2) : RdI .i64 w w.heap.size A1 l1.length c1 l1 := RdI.of_own h.2.1
theorem SnAt.r2 (h : SnAt w g l1 l2 A1 c1 A2 c2) : RdI .i64 w w.heap.size A2 l2.length c2 l2 := RdI.of_own h.2.2.1
theorem own_lo {B : Nat} {l : List Int} {A : Option Addr} {n c : Nat} (h : w.ownsRow B 3 1 (.slice A n c) n (l.map (Value.int .i64))) (a : Addr) (ha : A = some a) : B ≤ a.block ∧ a.block < w.heap.size := by
  subst ha
  exact h.lt a.block rfl
/-- what has grown at a list leaves the other be -/
theorem own_other {B : Nat} {l : List Int} {A A' : Option Addr} {n c n' c' : Nat} (h : w.ownsRow B 3 1 (.slice A n c) n (l.map (Value.int .i64))) (hg : w.grownBy w' (Value.slice A' n' c').ownBlock) (hd : ∀ a b : Addr, A = some a → A' = some b → a.block ≠ b.block) : w'.ownsRow B 3 1 (.slice A n c) n (l.map (Value.int .i64)) := by
  rcases h.2 with h0 | ⟨b, cap, cur, e0, hb, hblk, h2⟩
  · exact ⟨h.1, .inl h0⟩
  · refine ⟨h.1, .inr ⟨b, cap, cur, e0, hb, ?_, h2⟩⟩
    have hA : A = some ⟨b, 0, none⟩ := by injection e0
    refine (hg.block b (Array.getElem?_eq_some_iff.1 hblk).1 fun e => ?_).trans hblk
    cases A' with
    | none => simp [Value.ownBlock] at e
    | some a' => exact hd _ a' hA rfl (by simpa [Value.ownBlock] using e)
/-- one more in the first list -/
theorem SnAt.note1 {x : Int} {A4 : Option Addr} {c4 : Nat} (h : SnAt w g l1 l2 A1 c1 A2 c2) (ho : w'.ownsRow (g + 1) 3 1 (.slice A4 (l1.length + 1) c4) (l1.length + 1) (l1.map (Value.int .i64) ++ [.int .i64 x])) (hg : w.grownBy w' (Value.slice A1 l1.length c1).ownBlock)
    (hat : (Value.slice A4 (l1.length + 1) c4).ownBlock = (Value.slice A1 l1.length c1).ownBlock ∨ ∃ k, (Value.slice A4 (l1.length + 1) c4).ownBlock = some k ∧ w.heap.size ≤ k) :
    SnAt (w'.setCell ⟨g, 0, none⟩ (.slice A4 (l1.length + 1) c4)) g (l1 ++ [x]) l2 A4 c4 A2 c2 ∧ SOut g w (w'.setCell ⟨g, 0, none⟩ (.slice A4 (l1.length + 1) c4)) := by
  obtain ⟨h1, h2, h3, h4⟩ := h
  have hlen : (l1 ++ [x]).length = l1.length + 1 := by simp
  have hmap : (l1 ++ [x]).map (Value.int .i64) = l1.map (Value.int .i64) ++ [.int .i64 x] := by simp
  have hgb : some g ≠ (Value.slice A1 l1.length c1).ownBlock := fun e => by have := (h2.lt _ e.symm).1; omega
  have hk : Blk w' g 62 #[.slice A1 l1.length c1, .slice A2 l2.length c2] := h1.grown hg hgb
  refine ⟨⟨?_, ?_, ?_, fun a b ha hb => ?_⟩, ⟨⟨hg.os, hg.tape, hg.output, by rw [World.size_setCell]; exact hg.size, fun k hk' => ?_⟩, fun k o hk' hkg hkk => ?_⟩⟩
  · rw [hlen]; exact hk.set_ 0 _
  · rw [hlen, hmap]; exact ownsRow_setCell_below ho (by show g < g + 1; omega) _
  · exact ownsRow_setCell_below (own_other h3 hg fun a b ha hb => (h4 b a hb ha).symm) (by show g < g + 1; omega) _
  · subst ha
    have hb' := own_lo h3 b hb
    rcases hat with e | ⟨k, e, hk'⟩
    · cases A1 with
      | none => simp [Value.ownBlock] at e
      | some a1 =>
        have e2 : a.block = a1.block := by simpa [Value.ownBlock] using e
        rw [e2]; exact h4 a1 b rfl hb
    · have e2 : a.block = k := by simpa [Value.ownBlock] using e
      omega
  · rw [Below.heap_setCell _ _ _ _ (by show k ≠ g; omega)]
    exact hg.block k (by have := h1.lt; omega) fun e => by have := (h2.lt _ e.symm).1; omega
  · rw [Below.heap_setCell _ _ _ _ hkg]
    refine (hg.block k (Array.getElem?_eq_some_iff.1 hk').1 fun e => ?_).trans hk'
    obtain ⟨cs, fz, e2⟩ := owns_kind h2 k e.symm
    rw [hk'] at e2
    injection e2 with e2
    exact hkk cs fz e2
theorem SnAt.note2 {x : Int} {A4 : Option Addr} {c4 : Nat} (h : SnAt w g l1 l2 A1 c1 A2 c2) (ho : w'.ownsRow (g + 1) 3 1 (.slice A4 (l2.length + 1) c4) (l2.length + 1) (l2.map (Value.int .i64) ++ [.int .i64 x])) (hg : w.grownBy w' (Value.slice A2 l2.length c2).ownBlock)
    (hat : (Value.slice A4 (l2.length + 1) c4).ownBlock = (Value.slice A2 l2.length c2).ownBlock ∨ ∃ k, (Value.slice A4 (l2.length + 1) c4).ownBlock = some k ∧ w.heap.size ≤ k) :
    SnAt (w'.setCell ⟨g, 1, none⟩ (.slice A4 (l2.length + 1) c4)) g l1 (l2 ++ [x]) A1 c1 A4 c4 ∧ SOut g w (w'.setCell ⟨g, 1, none⟩ (.slice A4 (l2.length + 1) c4)) := by
  obtain ⟨h1, h2, h3, h4⟩ := h
  have hlen : (l2 ++ [x]).length = l2.length + 1 := by simp
  have hmap : (l2 ++ [x]).map (Value.int .i64) = l2.map (Value.int .i64) ++ [.int .i64 x] := by simp
  have hgb : some g ≠ (Value.slice A2 l2.length c2).ownBlock := fun e => by have := (h3.lt _ e.symm).1; omega
  have hk : Blk w' g 62 #[.slice A1 l1.length c1, .slice A2 l2.length c2] := h1.grown hg hgb
  refine ⟨⟨?_, ?_, ?_, fun a b ha hb => ?_⟩, ⟨⟨hg.os, hg.tape, hg.output, by rw [World.size_setCell]; exact hg.size, fun k hk' => ?_⟩, fun k o hk' hkg hkk => ?_⟩⟩
  · rw [hlen]; exact hk.set_ 1 _
  · exact ownsRow_setCell_below (own_other h2 hg h4) (by show g < g + 1; omega) _
  · rw [hlen, hmap]; exact ownsRow_setCell_below ho (by show g < g + 1; omega) _
  · subst hb
    have hb' := own_lo h2 a ha
    rcases hat with e | ⟨k, e, hk'⟩
    · cases A2 with
      | none => simp [Value.ownBlock] at e
      | some a1 =>
        have e2 : b.block = a1.block := by simpa [Value.ownBlock] using e
        rw [e2]; exact h4 a a1 ha rfl
    · have e2 : b.block = k := by simpa [Value.ownBlock] using e
      omega
  · rw [Below.heap_setCell _ _ _ _ (by show k ≠ g; omega)]
    exact hg.block k (by have := h1.lt; omega) fun e => by have := (h3.lt _ e.symm).1; omega
  · rw [Below.heap_setCell _ _ _ _ hkg]
    refine (hg.block k (Array.getElem?_eq_some_iff.1 hk').1 fun e => ?_).trans hk'
    obtain ⟨cs, fz, e2⟩ := owns_kind h3 k e.symm
    rw [hk'] at e2
    injection e2 with e2
    exact hkk cs fz e2
end
end Go.Proofs.YtidamlkekgnhgaaDoor

/- The contract of usufructref06.see. -/
namespace Go.Proofs.YtidamlkekgnhgaaDoor
set_option linter.unusedVariables false
set_option linter.unusedSimpArgs false
open Go.RowKit
attribute [local go_sem ↓] Go.wp_at_zero Go.wp_at_succ

def SeeAt (g s0 : Nat) (w0 : World) (t : TyD) : Prop := ∀ (A : Option Addr) (m cp : Nat), TysV w0 s0 A m cp t.l → ∀ (w : World) (l1 l2 : List Int) (A1 : Option Addr) (c1 : Nat) (A2 : Option Addr) (c2 : Nat), Below s0 w0 w → SnAt w g l1 l2 A1 c1 A2 c2 → s0 ≤ g → l1.length + nodes t ≤ 1099511627776 → l2.length + nodes t ≤ 1099511627776 →
  Calls Tryd.prog 65 #[.pointer (some ⟨g, 0, none⟩), .agg #[.int .u8 t.k, .int .i64 t.n, .int .i64 t.v, .int .u8 t.c, .slice A m cp]] w
    fun e w' => e = .returned (.tuple #[]) ∧ (∃ A1' c1' A2' c2', SnAt w' g (addAll l1 (allV t)) (addAll l2 (allM t)) A1' c1' A2' c2') ∧ SOut g w w'
theorem idxN_neg {l : List Int} {n r : Int} (h : idxN l n = r) : (r < 0 → addN l n = l ++ [n]) ∧ (¬ r < 0 → addN l n = l) := by
  have := idxN_contains l n
  rw [h] at this
  unfold addN
  refine ⟨fun hr => ?_, fun hr => ?_⟩
  · rw [← this, decide_eq_false (by omega)]; rfl
  · rw [← this, decide_eq_true (by omega)]; rfl
set_option maxRecDepth 100000 in
set_option maxHeartbeats 4000000 in
theorem see_else (g s0 : Nat) (w0 : World) (kd n v c : Int) (L : List TyD) (h1 : kd ≠ 1) (h7 : kd ≠ 7) (ih : ∀ x ∈ L, SeeAt g s0 w0 x) : SeeAt g s0 w0 (.mk kd n v c L) := by
  intro A m cp hl w l1 l2 A1 c1 A2 c2 hbel hv hsg hb1 hb2
  have hnod : nodes (.mk (kd) n v c L) = 1 + nodes.nodesL L := nodes_eq _
  rw [hnod] at hb1 hb2
  replace hl : TysV w0 s0 A m cp L := hl
  show Calls Tryd.prog 65 #[.pointer (some ⟨g, 0, none⟩), .agg #[.int .u8 (kd), .int .i64 n, .int .i64 v, .int .u8 c, .slice A m cp]] w _
  obtain ⟨W, hW⟩ : ∃ W, w.alloc (Obj.cells #[.int .u8 (kd), .int .i64 n, .int .i64 v, .int .u8 c, .slice A m cp] 27) = W := ⟨_, rfl⟩
  have hbx := below_box (w := w) (Obj.cells #[.int .u8 (kd), .int .i64 n, .int .i64 v, .int .u8 c, .slice A m cp] 27)
  have hz := blk_new w #[.int .u8 (kd), .int .i64 n, .int .i64 v, .int .u8 c, .slice A m cp] 27
  rw [hW] at hbx hz
  have hgw : g < w.heap.size := hv.lt
  have hnp1 : (Value.slice A1 l1.length c1).ownBlock ≠ some w.heap.size := fun e => by have := (hv.2.1.lt _ e).2; omega
  have hnp2 : (Value.slice A2 l2.length c2).ownBlock ≠ some w.heap.size := fun e => by have := (hv.2.2.1.lt _ e).2; omega
  have HnP1 := Lib.hid hnp1
  have HnP2 := Lib.hid hnp2
  clear hnp1 hnp2
  have hvo := SOut.of_below (g := g) (by omega) hbx
  have hvW := hv.below hbx
  have hlen := hl.len
  have m63 : m ≤ 9223372036854775807 := Nat.le_trans hl.2.1 hl.2.2.1
  have HW := Lib.hid hW
  have Hz := Lib.hid hz
  have HL := Lib.hid hl
  have Hvo := Lib.hid hvo
  have Hb0 := Lib.hid (hbel.trans (hvo.1.mono hsg))
  have Hih := Lib.hid ih
  clear hbx hW hz hl hvo hbel hv ih
  have HE1 : Hid (addAll l1 (allV (.mk kd n v c L)) = addAll l1 (L.flatMap allV)) := Lib.hid (by rw [allV_eq, if_neg (by exact h1)]; rfl)
  have HE2 : Hid (addAll l2 (allM (.mk kd n v c L)) = addAll l2 (L.flatMap allM)) := Lib.hid (by rw [allM_not (by exact h7)]; rfl)
  have d1 : (kd == 1) = false := by simpa using h1
  have d7 : (kd == 7) = false := by simpa using h7
  have hpg : w.heap.size ≠ g := by omega
  have kz0 := fun d os => cell_regrown (show W.cell? ⟨w.heap.size, 0, none⟩ = some (.int .u8 kd) from Hz.out.cell 0) d os
  have hbS := fun d os => below_regrown W d os
  clear h1 h7
  go_enter Tryd.func65, Tryd.ntmps65
  go_wp2_with fail
  rw [HW.out]
  refine wp_region_quiet_below (by kernel_rfl) (by kernel_rfl) ?_
  repeat (go_big_quiet_step (fail))
  refine wpQuiet_nil ?_
  intro _ hw'
  obtain ⟨⟨dq, osq⟩, hw''⟩ := hw'
  subst hw''
  have hbr := below_regrown W dq osq
  have hvs0 := hvW.below hbr
  have hvx := SOut.of_below (g := g) (by have := hvW.lt; omega) hbr
  obtain ⟨W2, hW2⟩ : ∃ W2, Sort.grow (redrawn W dq) osq = W2 := ⟨_, rfl⟩
  rw [hW2] at hvs0 hvx ⊢
  clear hbr hW2 kz0 hvW
  go_wp2_with fail
  have Hvx := Lib.hid hvx
  clear hvx
  go_loopg [4] m (fun gh i wr => ∃ (k : Nat) (A5 : Option Addr) (c5 : Nat) (A6 : Option Addr) (c6 : Nat), k ≤ m ∧ gh = m - k ∧ i = .int .i64 k ∧ SnAt wr g (addAll l1 ((L.take k).flatMap allV)) (addAll l2 ((L.take k).flatMap allM)) A5 c5 A6 c6 ∧ SOut g W2 wr)
  case atStart => exact ⟨0, _, _, _, _, Nat.zero_le _, rfl, rfl, by simpa [addAll] using hvs0, SOut.refl _ _⟩
  case round =>
    obtain ⟨k, A5, c5, A6, c6, hk, rfl, rfl, hvr0, hvr⟩ := hrel
    by_cases hkm : k < m
    · have d0 : decide (k < m) = true := by simpa using hkm
      have hk' : k < L.length := by omega
      have hsn := hvr0
      have hbw : Below s0 w0 wr := Hb0.out.trans ((Hvx.out.trans hvr).1.mono hsg)
      obtain ⟨b, off, rfl, hb, hc⟩ := HL.out.at_ (by omega)
      obtain ⟨f0, f1, f2, f3, Ax, mx, cx, f4, hx⟩ := tyAt_iff.1 (hc k hk')
      have hcW : ∀ j, wr.cell? ⟨b, j, none⟩ = w0.cell? ⟨b, j, none⟩ := fun j => hbw.cell (p := ⟨b, j, none⟩) hb
      have e0 := (hcW _).trans f0
      have e1 := (hcW _).trans f1
      have e2 := (hcW _).trans f2
      have e3 := (hcW _).trans f3
      have e4 := (hcW _).trans f4
      have hspl := nodesL_split L k hk'
      have hih := Hih.out L[k] (List.getElem_mem hk') Ax mx cx hx
      have hvs := hvr0.lt
      obtain ⟨x, hxk⟩ : ∃ x, L[k] = x := ⟨_, rfl⟩
      rw [hxk] at e0 e1 e2 e3 hih hspl
      have hzr := Hz.out.sout (Hvx.out.trans hvr) hpg (by decide)
      have z0 := hzr.cell 0
      have z4 := hzr.cell 4
      clear f0 f1 f2 f3 f4 hx hcW hc
      have Hzr := Lib.hid hzr
      have h1 := addAll_len ((L.take k).flatMap allV) l1
      have h2 := flatV_le (L.take k)
      have h3 := addAll_len ((L.take k).flatMap allM) l2
      have h4 := flatM_le false 0 (L.take k)
      rw [allM_plain] at h4
      have e5 : addAll l1 ((L.take (k + 1)).flatMap allV) = addAll (addAll l1 ((L.take k).flatMap allV)) (allV x) := by rw [← addAll_append, List.take_succ_eq_append_getElem hk', List.flatMap_append, hxk]; simp
      have e6 : addAll l2 ((L.take (k + 1)).flatMap allM) = addAll (addAll l2 ((L.take k).flatMap allM)) (allM x) := by rw [← addAll_append, List.take_succ_eq_append_getElem hk', List.flatMap_append, hxk]; simp
      obtain ⟨X1, hX1⟩ : ∃ X, addAll l1 ((L.take k).flatMap allV) = X := ⟨_, rfl⟩
      obtain ⟨X2, hX2⟩ : ∃ X, addAll l2 ((L.take k).flatMap allM) = X := ⟨_, rfl⟩
      rw [hX1] at hsn h1 e5
      rw [hX2] at hsn h3 e6
      have HE5 := Lib.hid e5
      have HE6 := Lib.hid e6
      have Hsn := Lib.hid hsn
      have Hvr := Lib.hid hvr
      have Hbw := Lib.hid hbw
      have k1 : (0 : Int) ≤ (k : Int) := by omega
      have k2 : (k : Int) < m := by omega
      have kz0 := fun d os => cell_regrown z0 d os
      clear hvr hbw hvr0 hxk e5 e6 hX1 hX2 hsn hzr z0
      go_wp2_with fail
      refine wp_region_quiet_below (by kernel_rfl) (by kernel_rfl) ?_
      repeat (go_big_quiet_step (fail))
      refine wpQuiet_nil ?_
      intro _ hw'
      obtain ⟨⟨dq, osq⟩, hw''⟩ := hw'
      subst hw''
      have hbr := below_regrown wr dq osq
      have hq := hih (Sort.grow (redrawn wr dq) osq) X1 X2 A5 c5 A6 c6 (Hbw.out.trans (hbr.mono (by omega))) (Hsn.out.below hbr) hsg (by omega) (by omega)
      have Hq := Lib.hid hq
      have Hvr2 := Lib.hid (Hvr.out.trans (SOut.of_below (g := g) (by omega) hbr))
      have y0 := cell_regrown e0 dq osq
      have y1 := cell_regrown e1 dq osq
      have y2 := cell_regrown e2 dq osq
      have y3 := cell_regrown e3 dq osq
      have y4 := cell_regrown e4 dq osq
      have x4 := cell_regrown z4 dq osq
      clear hq hih hbr kz0 e0 e1 e2 e3 e4 z4
      go_wp2_with fail
      refine Hq.out.mono ?_
      rintro e w9 ⟨rfl, ⟨A7, c7, A8, c8, h9⟩, h10⟩
      clear Hq y0 y1 y2 y3 y4 x4
      go_wp2_with fail
      go_roundg (m - (k + 1))
      case measure => omega
      case rel => exact ⟨k + 1, A7, c7, A8, c8, by omega, rfl, by go_num, by rw [HE5.out, HE6.out]; exact h9, Hvr2.out.trans h10⟩
    · have d0 : decide (k < m) = false := by simpa using hkm
      have hall : L.take k = L := List.take_of_length_le (by omega)
      rw [hall] at hvr0
      have hzr := Hz.out.sout (Hvx.out.trans hvr) hpg (by decide)
      have z4 := hzr.cell 4
      have Hv0 := Lib.hid hvr0
      have Hvr := Lib.hid hvr
      clear hvr hvr0 hall hzr
      go_wp2_with fail
      go_end0
      refine ⟨rfl, ⟨A5, c5, A6, c6, ?_⟩, (Hvo.out.trans Hvx.out).trans Hvr.out⟩
      rw [HE1.out, HE2.out]
      exact Hv0.out
theorem grown_drew_alloc {w w' : World} {o : Obj} {row : Option Nat} (h : (w.drew.alloc o).grownBy w' row) : w.grownBy w' row :=
  ⟨h.os, h.tape, h.output, Nat.le_trans (by rw [World.size_alloc]; exact Nat.le_succ _) h.size, fun k hk hne => (h.block k (by rw [World.size_alloc]; exact Nat.lt_succ_of_lt hk) hne).trans (Below.heap_alloc w.drew _ k hk)⟩
set_option maxRecDepth 100000 in
set_option maxHeartbeats 4000000 in
theorem see_var (g s0 : Nat) (w0 : World) (n v c : Int) (L : List TyD) (ih : ∀ x ∈ L, SeeAt g s0 w0 x) : SeeAt g s0 w0 (.mk 1 n v c L) := by
  obtain ⟨i0, hi0, hz0, hz1, hz2⟩ := info_parts infoI
  intro A m cp hl w l1 l2 A1 c1 A2 c2 hbel hv hsg hb1 hb2
  have hnod : nodes (.mk (1) n v c L) = 1 + nodes.nodesL L := nodes_eq _
  rw [hnod] at hb1 hb2
  replace hl : TysV w0 s0 A m cp L := hl
  show Calls Tryd.prog 65 #[.pointer (some ⟨g, 0, none⟩), .agg #[.int .u8 (1), .int .i64 n, .int .i64 v, .int .u8 c, .slice A m cp]] w _
  obtain ⟨W, hW⟩ : ∃ W, w.alloc (Obj.cells #[.int .u8 (1), .int .i64 n, .int .i64 v, .int .u8 c, .slice A m cp] 27) = W := ⟨_, rfl⟩
  have hbx := below_box (w := w) (Obj.cells #[.int .u8 (1), .int .i64 n, .int .i64 v, .int .u8 c, .slice A m cp] 27)
  have hz := blk_new w #[.int .u8 (1), .int .i64 n, .int .i64 v, .int .u8 c, .slice A m cp] 27
  rw [hW] at hbx hz
  have hgw : g < w.heap.size := hv.lt
  have hnp1 : (Value.slice A1 l1.length c1).ownBlock ≠ some w.heap.size := fun e => by have := (hv.2.1.lt _ e).2; omega
  have hnp2 : (Value.slice A2 l2.length c2).ownBlock ≠ some w.heap.size := fun e => by have := (hv.2.2.1.lt _ e).2; omega
  have HnP1 := Lib.hid hnp1
  have HnP2 := Lib.hid hnp2
  clear hnp1 hnp2
  have hvo := SOut.of_below (g := g) (by omega) hbx
  have hvW := hv.below hbx
  have hlen := hl.len
  have m63 : m ≤ 9223372036854775807 := Nat.le_trans hl.2.1 hl.2.2.1
  have HW := Lib.hid hW
  have Hz := Lib.hid hz
  have HL := Lib.hid hl
  have Hvo := Lib.hid hvo
  have Hb0 := Lib.hid (hbel.trans (hvo.1.mono hsg))
  have Hih := Lib.hid ih
  clear hbx hW hz hl hvo hbel hv ih
  obtain ⟨r, hr⟩ : ∃ r, idxN l1 n = r := ⟨_, rfl⟩
  have hneg := idxN_neg hr
  have HE0 : Hid (addAll l1 (allV (.mk 1 n v c L)) = addAll (addN l1 n) (L.flatMap allV)) := Lib.hid (by rw [allV_eq]; rfl)
  have HE2 : Hid (addAll l2 (allM (.mk 1 n v c L)) = addAll l2 (L.flatMap allM)) := Lib.hid (by rw [allM_not (show (TyD.mk 1 n v c L).k ≠ 7 from by show (1 : Int) ≠ 7; decide)]; rfl)
  have hpg : w.heap.size ≠ g := by omega
  have hpW := Hz.out.lt
  have kz0 := fun d os => cell_regrown (show W.cell? ⟨w.heap.size, 0, none⟩ = some (.int .u8 1) from Hz.out.cell 0) d os
  have kz1 := fun d os => cell_regrown (show W.cell? ⟨w.heap.size, 1, none⟩ = some (.int .i64 n) from Hz.out.cell 1) d os
  have kq0 := fun d os => cell_regrown (show W.cell? ⟨g, 0, none⟩ = some (.slice A1 l1.length c1) from hvW.1.cell 0) d os
  have hq := fun d os => refAt_any A1 l1.length c1 l1 n (Sort.grow (redrawn W d) os) _ (hvW.r1.below (below_regrown W d os)) r hr
  have hq := Lib.hid hq
  clear hr
  by_cases hr0 : r < 0
  · have dr : decide (r < 0) = true := by simpa using hr0
    have HE1 : Hid (addAll l1 (allV (.mk 1 n v c L)) = addAll (l1 ++ [n]) (L.flatMap allV)) := Lib.hid (by rw [HE0.out, hneg.1 hr0])
    clear hneg
    go_enter Tryd.func65, Tryd.ntmps65
    go_wp2_with fail
    rw [HW.out]
    refine wp_region_quiet_below (by kernel_rfl) (by kernel_rfl) ?_
    repeat (go_big_quiet_step ((first | (go_at_call 81; exact Calls.regrown_of (hq.out _ _)))))
    refine wpQuiet_nil ?_
    intro _ hw'
    obtain ⟨⟨dq, osq⟩, hw''⟩ := hw'
    subst hw''
    have hbr := below_regrown W dq osq
    have hv2 := hvW.below hbr
    have hvx2 := SOut.of_below (g := g) (by have := hvW.lt; omega) hbr
    have xp := cell_regrown (show W.cell? ⟨w.heap.size, 1, none⟩ = some (.int .i64 n) from Hz.out.cell 1) dq osq
    replace hpW := Nat.lt_of_lt_of_le hpW hbr.size
    obtain ⟨W2, hW2⟩ : ∃ W2, Sort.grow (redrawn W dq) osq = W2 := ⟨_, rfl⟩
    rw [hW2] at hv2 hvx2 xp hpW ⊢
    have hown0 := hv2.2.1
    clear hbr hW2 kz0 kz1 kq0 hvW hq hr0 dr
    go_wp2_with fail
    have hgs : g < W2.heap.size := hv2.lt
    have hps : w.heap.size < W2.heap.size := hpW
    have x0 : W2.cell? ⟨g, 0, none⟩ = some (.slice A1 l1.length c1) := hv2.1.cell 0
    have hn1 : (Value.slice A1 l1.length c1).ownBlock ≠ some g := fun e => by have := (hown0.lt _ e).1; omega
    have Hn1 := Lib.hid hn1
    have Ho := Lib.hid hown0
    have Hv2 := Lib.hid hv2
    clear hn1 hown0 hv2
    refine wp_region_noPanic ?_
    refine wp_region_T (fun w' => w'.cell? ⟨g, 0, none⟩ = some (.slice A1 l1.length c1) ∧ w'.cell? ⟨w.heap.size, 1, none⟩ = some (.int .i64 n)) 9 (by kernel_rfl) ⟨x0, xp⟩ (fun hHeld => ?_)
    refine wpAnyT_take (i := 0) (v := ?_) rfl (by kernel_rfl) (by kernel_rfl) (by kernel_rfl) (by kernel_rfl) (fun _ _ _ h => h) (Or.inl ⟨by rfl, ?_⟩) (by assumption) ?_
    rotate_left
    · (intro w hSw; (try dsimp only at hSw); first | (go_simp; done) | (go_simp; with_reducible rfl))
    try simp only [Act.put, List.getElem_toArray, List.getElem_cons_zero, List.getElem_cons_succ, List.setIfInBounds_toArray, List.set_cons_zero, List.set_cons_succ]
    refine wpAnyT_take (i := 1) (v := ?_) rfl (by kernel_rfl) (by kernel_rfl) (by kernel_rfl) (by kernel_rfl) (fun _ _ _ h => h) (Or.inl ⟨by rfl, ?_⟩) (by assumption) ?_
    rotate_left
    · (intro w hSw; (try dsimp only at hSw); first | (go_simp; done) | (go_simp; with_reducible rfl))
    try simp only [Act.put, List.getElem_toArray, List.getElem_cons_zero, List.getElem_cons_succ, List.setIfInBounds_toArray, List.set_cons_zero, List.set_cons_succ]
    refine wpAnyT_take (i := 2) (v := ?_) rfl (by kernel_rfl) (by kernel_rfl) (by kernel_rfl) (by kernel_rfl) (fun _ _ _ h => h) (Or.inl ⟨by rfl, ?_⟩) (by assumption) ?_
    rotate_left
    · (intro w hSw; (try dsimp only at hSw); first | (go_simp; done) | (go_simp; with_reducible rfl))
    try simp only [Act.put, List.getElem_toArray, List.getElem_cons_zero, List.getElem_cons_succ, List.setIfInBounds_toArray, List.set_cons_zero, List.set_cons_succ]
    refine wpAnyT_take (i := 3) (v := ?_) rfl (by kernel_rfl) (by kernel_rfl) (by kernel_rfl) (by kernel_rfl) (fun _ _ _ h => h) (Or.inl ⟨by rfl, ?_⟩) (by assumption) ?_
    rotate_left
    · (intro w hSw; (try dsimp only at hSw); first | (go_simp; done) | (go_simp; with_reducible rfl))
    try simp only [Act.put, List.getElem_toArray, List.getElem_cons_zero, List.getElem_cons_succ, List.setIfInBounds_toArray, List.set_cons_zero, List.set_cons_succ]
    refine wpAnyT_take (i := 4) (v := ?_) rfl (by kernel_rfl) (by kernel_rfl) (by kernel_rfl) (by kernel_rfl) (fun _ _ _ h => h) (Or.inl ⟨by rfl, ?_⟩) (by assumption) ?_
    rotate_left
    · (intro w hSw; (try dsimp only at hSw); first | (go_simp; done) | (go_simp; with_reducible rfl))
    try simp only [Act.put, List.getElem_toArray, List.getElem_cons_zero, List.getElem_cons_succ, List.setIfInBounds_toArray, List.set_cons_zero, List.set_cons_succ]
    refine wpAnyT_take (i := 5) (v := ?_) rfl (by kernel_rfl) (by kernel_rfl) (by kernel_rfl) (by kernel_rfl) (fun _ _ _ h => h) (Or.inl ⟨by rfl, ?_⟩) (by assumption) ?_
    rotate_left
    · (intro w hSw; (try dsimp only at hSw); first | (go_simp; done) | (go_simp; with_reducible rfl))
    try simp only [Act.put, List.getElem_toArray, List.getElem_cons_zero, List.getElem_cons_succ, List.setIfInBounds_toArray, List.set_cons_zero, List.set_cons_succ]
    refine wpAnyT_take (i := 6) (v := ?_) rfl (by kernel_rfl) (by kernel_rfl) (by kernel_rfl) (by kernel_rfl) (fun _ _ _ h => h) (Or.inl ⟨by rfl, ?_⟩) (by assumption) ?_
    rotate_left
    · (intro w hSw; (try dsimp only at hSw); first | (go_simp; done) | (go_simp; with_reducible rfl))
    try simp only [Act.put, List.getElem_toArray, List.getElem_cons_zero, List.getElem_cons_succ, List.setIfInBounds_toArray, List.set_cons_zero, List.set_cons_succ]
    refine wpAnyT_step (i := 7) (by kernel_rfl) rfl (fun K hK => ?_)
    go_simp
    refine hK.out _ _ ⟨(World.cell?_alloc_lt _ _ ⟨g, 0, none⟩ hgs).trans x0, (World.cell?_alloc_lt _ _ ⟨w.heap.size, 1, none⟩ hps).trans xp⟩ ?_
    clear hK K
    try simp only [Act.put, List.getElem_toArray, List.getElem_cons_zero, List.getElem_cons_succ, List.setIfInBounds_toArray, List.set_cons_zero, List.set_cons_succ]
    refine wpAnyT_step (i := 8) (by kernel_rfl) rfl (fun K hK => ?_)
    (refine step_append_rd _ (by rfl) (.tmp 22) (.tmp 25) 42 (by rfl) (g + 1) 3 i0 _ 1 8 Tryd.underlying42 hi0 hz0 hz1 hz2 rfl (by omega) (.slice A1 l1.length c1) l1.length (l1.map (Value.int .i64)) (by rfl) (Ho.out.alloc _) _ (some ⟨W2.heap.size, 0, none⟩) 1 1 [.int .i64 n] (by rfl) (Rd.new _ [.int .i64 n] _) (by intro u hu; simp at hu; subst hu; rfl) (by unfold maxLen; omega) (by omega) (by simp; omega) ?_; intro v4 w4 ho4 hg4 hat4; obtain ⟨A4, c4, rfl⟩ := ownsRow_form ho4; have hg5 := grown_drew_alloc hg4; have hq4 := Blk.grown Hv2.out.1 hg5 (Ne.symm Hn1.out); have hp4 := (World.cell?_of_block (hg5.block w.heap.size hps (Ne.symm HnP1.out)) : w4.cell? ⟨w.heap.size, 1, none⟩ = W2.cell? ⟨w.heap.size, 1, none⟩).trans xp)
    refine hK.out _ _ ⟨hq4.cell 0, hp4⟩ ?_
    clear hK K
    try simp only [Act.put, List.getElem_toArray, List.getElem_cons_zero, List.getElem_cons_succ, List.setIfInBounds_toArray, List.set_cons_zero, List.set_cons_succ]
    have f2 : w4.frozen? ⟨g, 0, none⟩ = false := hq4.frozen 0
    have y1 : w4.cell? ⟨g, 0, none⟩ = some (.slice A1 l1.length c1) := hq4.cell 0
    refine wpAnyT_seq 9 (by omega) (by rfl) (by kernel_rfl) ?_
    simp only [List.drop_succ_cons, List.drop_zero]
    go_wp2_with fail
    refine NoPanic.normal ?_
    have hnt := Hv2.out.note1 (x := n) ho4 hg5 (hat4.imp id fun e => ⟨_, e, by simp⟩)
    have hvs0 := hnt.1
    have hvx := hvx2.trans hnt.2
    clear hnt f2 y1 hp4 hq4 hg5 hat4 hg4 ho4 x0 xp hvx2 Hn1 Ho Hv2
    obtain ⟨W5, hW5⟩ : ∃ W5, w4.setCell ⟨g, 0, none⟩ (.slice A4 (l1.length + 1) c4) = W5 := ⟨_, rfl⟩
    have e9 : (l1 ++ [n]).length = l1.length + 1 := by simp
    obtain ⟨l1', hl1'⟩ : ∃ l, l1 ++ [n] = l := ⟨_, rfl⟩
    rw [hW5] at hvs0 hvx ⊢
    rw [hl1'] at hvs0 HE1 e9
    clear hW5 hl1'
    go_wp2_with fail
    have Hvx := Lib.hid hvx
    clear hvx
    go_loopg [4] m (fun gh i wr => ∃ (k : Nat) (A5 : Option Addr) (c5 : Nat) (A6 : Option Addr) (c6 : Nat), k ≤ m ∧ gh = m - k ∧ i = .int .i64 k ∧ SnAt wr g (addAll l1' ((L.take k).flatMap allV)) (addAll l2 ((L.take k).flatMap allM)) A5 c5 A6 c6 ∧ SOut g W5 wr)
    case atStart => exact ⟨0, _, _, _, _, Nat.zero_le _, rfl, rfl, by simpa [addAll] using hvs0, SOut.refl _ _⟩
    case round =>
      obtain ⟨k, A5, c5, A6, c6, hk, rfl, rfl, hvr0, hvr⟩ := hrel
      by_cases hkm : k < m
      · have d0 : decide (k < m) = true := by simpa using hkm
        have hk' : k < L.length := by omega
        have hsn := hvr0
        have hbw : Below s0 w0 wr := Hb0.out.trans ((Hvx.out.trans hvr).1.mono hsg)
        obtain ⟨b, off, rfl, hb, hc⟩ := HL.out.at_ (by omega)
        obtain ⟨f0, f1, f2, f3, Ax, mx, cx, f4, hx⟩ := tyAt_iff.1 (hc k hk')
        have hcW : ∀ j, wr.cell? ⟨b, j, none⟩ = w0.cell? ⟨b, j, none⟩ := fun j => hbw.cell (p := ⟨b, j, none⟩) hb
        have e0 := (hcW _).trans f0
        have e1 := (hcW _).trans f1
        have e2 := (hcW _).trans f2
        have e3 := (hcW _).trans f3
        have e4 := (hcW _).trans f4
        have hspl := nodesL_split L k hk'
        have hih := Hih.out L[k] (List.getElem_mem hk') Ax mx cx hx
        have hvs := hvr0.lt
        obtain ⟨x, hxk⟩ : ∃ x, L[k] = x := ⟨_, rfl⟩
        rw [hxk] at e0 e1 e2 e3 hih hspl
        have hzr := Hz.out.sout (Hvx.out.trans hvr) hpg (by decide)
        have z0 := hzr.cell 0
        have z4 := hzr.cell 4
        clear f0 f1 f2 f3 f4 hx hcW hc
        have Hzr := Lib.hid hzr
        have h1 := addAll_len ((L.take k).flatMap allV) l1'
        have h2 := flatV_le (L.take k)
        have h3 := addAll_len ((L.take k).flatMap allM) l2
        have h4 := flatM_le false 0 (L.take k)
        rw [allM_plain] at h4
        have e5 : addAll l1' ((L.take (k + 1)).flatMap allV) = addAll (addAll l1' ((L.take k).flatMap allV)) (allV x) := by rw [← addAll_append, List.take_succ_eq_append_getElem hk', List.flatMap_append, hxk]; simp
        have e6 : addAll l2 ((L.take (k + 1)).flatMap allM) = addAll (addAll l2 ((L.take k).flatMap allM)) (allM x) := by rw [← addAll_append, List.take_succ_eq_append_getElem hk', List.flatMap_append, hxk]; simp
        obtain ⟨X1, hX1⟩ : ∃ X, addAll l1' ((L.take k).flatMap allV) = X := ⟨_, rfl⟩
        obtain ⟨X2, hX2⟩ : ∃ X, addAll l2 ((L.take k).flatMap allM) = X := ⟨_, rfl⟩
        rw [hX1] at hsn h1 e5
        rw [hX2] at hsn h3 e6
        have HE5 := Lib.hid e5
        have HE6 := Lib.hid e6
        have Hsn := Lib.hid hsn
        have Hvr := Lib.hid hvr
        have Hbw := Lib.hid hbw
        have k1 : (0 : Int) ≤ (k : Int) := by omega
        have k2 : (k : Int) < m := by omega
        have kz0 := fun d os => cell_regrown z0 d os
        clear hvr hbw hvr0 hxk e5 e6 hX1 hX2 hsn hzr z0
        go_wp2_with fail
        refine wp_region_quiet_below (by kernel_rfl) (by kernel_rfl) ?_
        repeat (go_big_quiet_step (fail))
        refine wpQuiet_nil ?_
        intro _ hw'
        obtain ⟨⟨dq, osq⟩, hw''⟩ := hw'
        subst hw''
        have hbr := below_regrown wr dq osq
        have hq := hih (Sort.grow (redrawn wr dq) osq) X1 X2 A5 c5 A6 c6 (Hbw.out.trans (hbr.mono (by omega))) (Hsn.out.below hbr) hsg (by omega) (by omega)
        have Hq := Lib.hid hq
        have Hvr2 := Lib.hid (Hvr.out.trans (SOut.of_below (g := g) (by omega) hbr))
        have y0 := cell_regrown e0 dq osq
        have y1 := cell_regrown e1 dq osq
        have y2 := cell_regrown e2 dq osq
        have y3 := cell_regrown e3 dq osq
        have y4 := cell_regrown e4 dq osq
        have x4 := cell_regrown z4 dq osq
        clear hq hih hbr kz0 e0 e1 e2 e3 e4 z4
        go_wp2_with fail
        refine Hq.out.mono ?_
        rintro e w9 ⟨rfl, ⟨A7, c7, A8, c8, h9⟩, h10⟩
        clear Hq y0 y1 y2 y3 y4 x4
        go_wp2_with fail
        go_roundg (m - (k + 1))
        case measure => omega
        case rel => exact ⟨k + 1, A7, c7, A8, c8, by omega, rfl, by go_num, by rw [HE5.out, HE6.out]; exact h9, Hvr2.out.trans h10⟩
      · have d0 : decide (k < m) = false := by simpa using hkm
        have hall : L.take k = L := List.take_of_length_le (by omega)
        rw [hall] at hvr0
        have hzr := Hz.out.sout (Hvx.out.trans hvr) hpg (by decide)
        have z4 := hzr.cell 4
        have Hv0 := Lib.hid hvr0
        have Hvr := Lib.hid hvr
        clear hvr hvr0 hall hzr
        go_wp2_with fail
        go_end0
        refine ⟨rfl, ⟨A5, c5, A6, c6, ?_⟩, (Hvo.out.trans Hvx.out).trans Hvr.out⟩
        rw [HE1.out, HE2.out]
        exact Hv0.out
  · have dr : decide (r < 0) = false := by simpa using hr0
    have HE1 : Hid (addAll l1 (allV (.mk 1 n v c L)) = addAll l1 (L.flatMap allV)) := Lib.hid (by rw [HE0.out, hneg.2 hr0])
    clear hneg
    go_enter Tryd.func65, Tryd.ntmps65
    go_wp2_with fail
    rw [HW.out]
    refine wp_region_quiet_below (by kernel_rfl) (by kernel_rfl) ?_
    repeat (go_big_quiet_step ((first | (go_at_call 81; exact Calls.regrown_of (hq.out _ _)))))
    refine wpQuiet_nil ?_
    intro _ hw'
    obtain ⟨⟨dq, osq⟩, hw''⟩ := hw'
    subst hw''
    have hbr := below_regrown W dq osq
    have hvs0 := hvW.below hbr
    have hvx := SOut.of_below (g := g) (by have := hvW.lt; omega) hbr
    obtain ⟨W2, hW2⟩ : ∃ W2, Sort.grow (redrawn W dq) osq = W2 := ⟨_, rfl⟩
    rw [hW2] at hvs0 hvx ⊢
    clear hbr hW2 kz0 kz1 kq0 hvW hq hr0 dr
    go_wp2_with fail
    have Hvx := Lib.hid hvx
    clear hvx
    go_loopg [4] m (fun gh i wr => ∃ (k : Nat) (A5 : Option Addr) (c5 : Nat) (A6 : Option Addr) (c6 : Nat), k ≤ m ∧ gh = m - k ∧ i = .int .i64 k ∧ SnAt wr g (addAll l1 ((L.take k).flatMap allV)) (addAll l2 ((L.take k).flatMap allM)) A5 c5 A6 c6 ∧ SOut g W2 wr)
    case atStart => exact ⟨0, _, _, _, _, Nat.zero_le _, rfl, rfl, by simpa [addAll] using hvs0, SOut.refl _ _⟩
    case round =>
      obtain ⟨k, A5, c5, A6, c6, hk, rfl, rfl, hvr0, hvr⟩ := hrel
      by_cases hkm : k < m
      · have d0 : decide (k < m) = true := by simpa using hkm
        have hk' : k < L.length := by omega
        have hsn := hvr0
        have hbw : Below s0 w0 wr := Hb0.out.trans ((Hvx.out.trans hvr).1.mono hsg)
        obtain ⟨b, off, rfl, hb, hc⟩ := HL.out.at_ (by omega)
        obtain ⟨f0, f1, f2, f3, Ax, mx, cx, f4, hx⟩ := tyAt_iff.1 (hc k hk')
        have hcW : ∀ j, wr.cell? ⟨b, j, none⟩ = w0.cell? ⟨b, j, none⟩ := fun j => hbw.cell (p := ⟨b, j, none⟩) hb
        have e0 := (hcW _).trans f0
        have e1 := (hcW _).trans f1
        have e2 := (hcW _).trans f2
        have e3 := (hcW _).trans f3
        have e4 := (hcW _).trans f4
        have hspl := nodesL_split L k hk'
        have hih := Hih.out L[k] (List.getElem_mem hk') Ax mx cx hx
        have hvs := hvr0.lt
        obtain ⟨x, hxk⟩ : ∃ x, L[k] = x := ⟨_, rfl⟩
        rw [hxk] at e0 e1 e2 e3 hih hspl
        have hzr := Hz.out.sout (Hvx.out.trans hvr) hpg (by decide)
        have z0 := hzr.cell 0
        have z4 := hzr.cell 4
        clear f0 f1 f2 f3 f4 hx hcW hc
        have Hzr := Lib.hid hzr
        have h1 := addAll_len ((L.take k).flatMap allV) l1
        have h2 := flatV_le (L.take k)
        have h3 := addAll_len ((L.take k).flatMap allM) l2
        have h4 := flatM_le false 0 (L.take k)
        rw [allM_plain] at h4
        have e5 : addAll l1 ((L.take (k + 1)).flatMap allV) = addAll (addAll l1 ((L.take k).flatMap allV)) (allV x) := by rw [← addAll_append, List.take_succ_eq_append_getElem hk', List.flatMap_append, hxk]; simp
        have e6 : addAll l2 ((L.take (k + 1)).flatMap allM) = addAll (addAll l2 ((L.take k).flatMap allM)) (allM x) := by rw [← addAll_append, List.take_succ_eq_append_getElem hk', List.flatMap_append, hxk]; simp
        obtain ⟨X1, hX1⟩ : ∃ X, addAll l1 ((L.take k).flatMap allV) = X := ⟨_, rfl⟩
        obtain ⟨X2, hX2⟩ : ∃ X, addAll l2 ((L.take k).flatMap allM) = X := ⟨_, rfl⟩
        rw [hX1] at hsn h1 e5
        rw [hX2] at hsn h3 e6
        have HE5 := Lib.hid e5
        have HE6 := Lib.hid e6
        have Hsn := Lib.hid hsn
        have Hvr := Lib.hid hvr
        have Hbw := Lib.hid hbw
        have k1 : (0 : Int) ≤ (k : Int) := by omega
        have k2 : (k : Int) < m := by omega
        have kz0 := fun d os => cell_regrown z0 d os
        clear hvr hbw hvr0 hxk e5 e6 hX1 hX2 hsn hzr z0
        go_wp2_with fail
        refine wp_region_quiet_below (by kernel_rfl) (by kernel_rfl) ?_
        repeat (go_big_quiet_step (fail))
        refine wpQuiet_nil ?_
        intro _ hw'
        obtain ⟨⟨dq, osq⟩, hw''⟩ := hw'
        subst hw''
        have hbr := below_regrown wr dq osq
        have hq := hih (Sort.grow (redrawn wr dq) osq) X1 X2 A5 c5 A6 c6 (Hbw.out.trans (hbr.mono (by omega))) (Hsn.out.below hbr) hsg (by omega) (by omega)
        have Hq := Lib.hid hq
        have Hvr2 := Lib.hid (Hvr.out.trans (SOut.of_below (g := g) (by omega) hbr))
        have y0 := cell_regrown e0 dq osq
        have y1 := cell_regrown e1 dq osq
        have y2 := cell_regrown e2 dq osq
        have y3 := cell_regrown e3 dq osq
        have y4 := cell_regrown e4 dq osq
        have x4 := cell_regrown z4 dq osq
        clear hq hih hbr kz0 e0 e1 e2 e3 e4 z4
        go_wp2_with fail
        refine Hq.out.mono ?_
        rintro e w9 ⟨rfl, ⟨A7, c7, A8, c8, h9⟩, h10⟩
        clear Hq y0 y1 y2 y3 y4 x4
        go_wp2_with fail
        go_roundg (m - (k + 1))
        case measure => omega
        case rel => exact ⟨k + 1, A7, c7, A8, c8, by omega, rfl, by go_num, by rw [HE5.out, HE6.out]; exact h9, Hvr2.out.trans h10⟩
      · have d0 : decide (k < m) = false := by simpa using hkm
        have hall : L.take k = L := List.take_of_length_le (by omega)
        rw [hall] at hvr0
        have hzr := Hz.out.sout (Hvx.out.trans hvr) hpg (by decide)
        have z4 := hzr.cell 4
        have Hv0 := Lib.hid hvr0
        have Hvr := Lib.hid hvr
        clear hvr hvr0 hall hzr
        go_wp2_with fail
        go_end0
        refine ⟨rfl, ⟨A5, c5, A6, c6, ?_⟩, (Hvo.out.trans Hvx.out).trans Hvr.out⟩
        rw [HE1.out, HE2.out]
        exact Hv0.out
set_option maxRecDepth 100000 in
set_option maxHeartbeats 8000000 in
theorem see_fun (g s0 : Nat) (w0 : World) (n v c : Int) (L : List TyD) (ih : ∀ x ∈ L, SeeAt g s0 w0 x) : SeeAt g s0 w0 (.mk 7 n v c L) := by
  obtain ⟨i0, hi0, hz0, hz1, hz2⟩ := info_parts infoI
  intro A m cp hl w l1 l2 A1 c1 A2 c2 hbel hv hsg hb1 hb2
  have hnod : nodes (.mk (7) n v c L) = 1 + nodes.nodesL L := nodes_eq _
  rw [hnod] at hb1 hb2
  replace hl : TysV w0 s0 A m cp L := hl
  show Calls Tryd.prog 65 #[.pointer (some ⟨g, 0, none⟩), .agg #[.int .u8 (7), .int .i64 n, .int .i64 v, .int .u8 c, .slice A m cp]] w _
  obtain ⟨W, hW⟩ : ∃ W, w.alloc (Obj.cells #[.int .u8 (7), .int .i64 n, .int .i64 v, .int .u8 c, .slice A m cp] 27) = W := ⟨_, rfl⟩
  have hbx := below_box (w := w) (Obj.cells #[.int .u8 (7), .int .i64 n, .int .i64 v, .int .u8 c, .slice A m cp] 27)
  have hz := blk_new w #[.int .u8 (7), .int .i64 n, .int .i64 v, .int .u8 c, .slice A m cp] 27
  rw [hW] at hbx hz
  have hgw : g < w.heap.size := hv.lt
  have hnp1 : (Value.slice A1 l1.length c1).ownBlock ≠ some w.heap.size := fun e => by have := (hv.2.1.lt _ e).2; omega
  have hnp2 : (Value.slice A2 l2.length c2).ownBlock ≠ some w.heap.size := fun e => by have := (hv.2.2.1.lt _ e).2; omega
  have HnP1 := Lib.hid hnp1
  have HnP2 := Lib.hid hnp2
  clear hnp1 hnp2
  have hvo := SOut.of_below (g := g) (by omega) hbx
  have hvW := hv.below hbx
  have hlen := hl.len
  have m63 : m ≤ 9223372036854775807 := Nat.le_trans hl.2.1 hl.2.2.1
  have HW := Lib.hid hW
  have Hz := Lib.hid hz
  have HL := Lib.hid hl
  have Hvo := Lib.hid hvo
  have Hb0 := Lib.hid (hbel.trans (hvo.1.mono hsg))
  have Hih := Lib.hid ih
  clear hbx hW hz hl hvo hbel hv ih
  obtain ⟨f, hf⟩ : ∃ f, decide (c = 0) = f := ⟨_, rfl⟩
  have HE1 : Hid (addAll l1 (allV (.mk 7 n v c L)) = addAll l1 (L.flatMap allV)) := Lib.hid (by rw [allV_eq]; rfl)
  have HE2 : Hid (addAll l2 (allM (.mk 7 n v c L)) = addAll l2 (allM.go f v 0 L)) := Lib.hid (by rw [allM_eq, ← hf]; rfl)
  have hfc : (c == 0) = f := by rw [← hf]; rfl
  have hpg : w.heap.size ≠ g := by omega
  have kz0 := fun d os => cell_regrown (show W.cell? ⟨w.heap.size, 0, none⟩ = some (.int .u8 7) from Hz.out.cell 0) d os
  clear hf
  go_enter Tryd.func65, Tryd.ntmps65
  go_wp2_with fail
  rw [HW.out]
  refine wp_region_quiet_below (by kernel_rfl) (by kernel_rfl) ?_
  repeat (go_big_quiet_step (fail))
  refine wpQuiet_nil ?_
  intro _ hw'
  obtain ⟨⟨dq, osq⟩, hw''⟩ := hw'
  subst hw''
  have hbr := below_regrown W dq osq
  have hvs0 := hvW.below hbr
  have hvx := SOut.of_below (g := g) (by have := hvW.lt; omega) hbr
  obtain ⟨W2, hW2⟩ : ∃ W2, Sort.grow (redrawn W dq) osq = W2 := ⟨_, rfl⟩
  rw [hW2] at hvs0 hvx ⊢
  have Hvx := Lib.hid hvx
  clear hbr hW2 kz0 hvW hvx
  go_wp2_with fail
  go_loopg [4] m (fun gh i wr => ∃ (k : Nat) (A5 : Option Addr) (c5 : Nat) (A6 : Option Addr) (c6 : Nat), k ≤ m ∧ gh = m - k ∧ i = .int .i64 k ∧ SnAt wr g (addAll l1 ((L.take k).flatMap allV)) (addAll l2 (allM.go f v 0 (L.take k))) A5 c5 A6 c6 ∧ SOut g W2 wr)
  case atStart => exact ⟨0, _, _, _, _, Nat.zero_le _, rfl, rfl, by rw [List.take_zero, allM.go]; exact hvs0, SOut.refl _ _⟩
  case round =>
    obtain ⟨k, A5, c5, A6, c6, hk, rfl, rfl, hvr0, hvr⟩ := hrel
    by_cases hkm : k < m
    · have d0 : decide (k < m) = true := by simpa using hkm
      have hk' : k < L.length := by omega
      have hbw : Below s0 w0 wr := Hb0.out.trans ((Hvx.out.trans hvr).1.mono hsg)
      obtain ⟨b, off, rfl, hb, hc⟩ := HL.out.at_ (by omega)
      obtain ⟨f0, f1, f2, f3, Ax, mx, cx, f4, hx⟩ := tyAt_iff.1 (hc k hk')
      have hcW : ∀ j, wr.cell? ⟨b, j, none⟩ = w0.cell? ⟨b, j, none⟩ := fun j => hbw.cell (p := ⟨b, j, none⟩) hb
      have e0 := (hcW _).trans f0
      have e1 := (hcW _).trans f1
      have e2 := (hcW _).trans f2
      have e3 := (hcW _).trans f3
      have e4 := (hcW _).trans f4
      have hspl := nodesL_split L k hk'
      have hih := Hih.out L[k] (List.getElem_mem hk') Ax mx cx hx
      have hvs := hvr0.lt
      obtain ⟨x, hxk⟩ : ∃ x, L[k] = x := ⟨_, rfl⟩
      rw [hxk] at e0 e1 e2 e3 f0 f1 f2 f3 hih hspl
      have hzr := Hz.out.sout (Hvx.out.trans hvr) hpg (by decide)
      have z0 := hzr.cell 0
      have z4 := hzr.cell 4
      have z2 := hzr.cell 2
      have z3 := hzr.cell 3
      have kz0 := fun d os => cell_regrown z0 d os
      have kz3 := fun d os => cell_regrown z3 d os
      have hm1 := flatV_le (L.take k)
      have hm2 := flatM_le f v (L.take k)
      have h1 := addAll_len ((L.take k).flatMap allV) l1
      have h2 := addAll_len (allM.go f v 0 (L.take k)) l2
      have htk : (L.take k).length = k := by rw [List.length_take]; omega
      have HE5 : Hid (addAll l1 ((L.take (k + 1)).flatMap allV) = addAll (addAll l1 ((L.take k).flatMap allV)) (allV x)) := Lib.hid (by
        rw [← addAll_append, List.take_succ_eq_append_getElem hk', List.flatMap_append, hxk]; simp)
      have he6 : addAll l2 (allM.go f v 0 (L.take (k + 1))) = addAll (addAll l2 (allM.go f v 0 (L.take k))) ((if f && decide (k = 1) then [v] else []) ++ allM x) := by
        rw [← addAll_append, List.take_succ_eq_append_getElem hk', hxk, allM_snoc, htk, Nat.zero_add]
      obtain ⟨X1, hX1⟩ : ∃ X, addAll l1 ((L.take k).flatMap allV) = X := ⟨_, rfl⟩
      obtain ⟨X2, hX2⟩ : ∃ X, addAll l2 (allM.go f v 0 (L.take k)) = X := ⟨_, rfl⟩
      rw [hX1] at hvr0 h1 HE5
      rw [hX2] at hvr0 h2 he6
      have Hsn := Lib.hid hvr0
      have Hvr := Lib.hid hvr
      have Hbw := Lib.hid hbw
      have Hzr := Lib.hid hzr
      have Hih2 := Lib.hid hih
      have hnp := HnP2
      have k1 : (0 : Int) ≤ (k : Int) := by omega
      have k2 : (k : Int) < m := by omega
      clear hx hcW hc hX1 hX2 hvr0 hvr hbw hzr hih hxk
      by_cases hk1 : k = 1
      · have dk1 : ((k : Int) == 1) = true := by simp [hk1]
        cases f with
        | true =>
          rw [decide_eq_true hk1] at he6
          have hm3 := flatM_le1 true v (L.take k) (by omega)
          have he7 : addAll l2 (allM.go true v 0 (L.take (k + 1))) = addAll (addN X2 v) (allM x) := by rw [he6]; rfl
          obtain ⟨r, hr⟩ : ∃ r, idxN X2 v = r := ⟨_, rfl⟩
          have hneg := idxN_neg hr
          have hq := fun d os => refAt_any A6 X2.length c6 X2 v (Sort.grow (redrawn wr d) os) _ (Hsn.out.r2.below (below_regrown wr d os)) r hr
          have hq := Lib.hid hq
          have kz2 := fun d os => cell_regrown z2 d os
          have kq1 := fun d os => cell_regrown (show wr.cell? ⟨g, 1, none⟩ = some (.slice A6 X2.length c6) from Hsn.out.1.cell 1) d os
          clear hk1 he6 hr
          by_cases hr0 : r < 0
          · have dr : decide (r < 0) = true := by simpa using hr0
            have HE6 : Hid (addAll l2 (allM.go true v 0 (L.take (k + 1))) = addAll (X2 ++ [v]) (allM x)) := Lib.hid (by rw [he7, hneg.1 hr0])
            clear he7 hneg
            go_wp2_with fail
            refine wp_region_quiet_below (by kernel_rfl) (by kernel_rfl) ?_
            repeat (go_big_quiet_step ((first | (go_at_call 81; exact Calls.regrown_of (hq.out _ _)))))
            refine wpQuiet_nil ?_
            intro _ hw'
            obtain ⟨⟨dq, osq⟩, hw''⟩ := hw'
            subst hw''
            have hbr := below_regrown wr dq osq
            have hsn5 := Hsn.out.below hbr
            have hbw5 := Hbw.out.trans (hbr.mono (by omega))
            have hso5 := SOut.of_below (g := g) (by omega) hbr
            have hzr5 := Hzr.out.below hbr Hzr.out.lt
            have hpW := hzr5.lt
            have hcE : ∀ j, (Sort.grow (redrawn wr dq) osq).cell? ⟨b, j, none⟩ = w0.cell? ⟨b, j, none⟩ := fun j => hbw5.cell (p := ⟨b, j, none⟩) hb
            obtain ⟨W5, hW5⟩ : ∃ W5, Sort.grow (redrawn wr dq) osq = W5 := ⟨_, rfl⟩
            rw [hW5] at hsn5 hbw5 hso5 hzr5 hpW hcE ⊢
            clear hbr hW5 kz0 kz3 e0 e1 e2 e3 e4 z0 z4 z2 z3
            have xp := hzr5.cell 2
            have hown0 := hsn5.2.2.1
            have hnpp : (Value.slice A6 X2.length c6).ownBlock ≠ some w.heap.size := fun e => by
              obtain ⟨cs, fz, e2⟩ := owns_kind hown0 _ e
              have h9 := hzr5
              unfold Blk at h9
              rw [h9] at e2
              injection e2 with e2
              injection e2 with _ e3 _
              exact absurd e3 (by decide)
            have HnPP := Lib.hid hnpp
            clear hnpp kz2 kq1 hq hr0 dr
            go_wp2_with fail
            have hgs : g < W5.heap.size := hsn5.lt
            have hps : w.heap.size < W5.heap.size := hpW
            have x0 : W5.cell? ⟨g, 1, none⟩ = some (.slice A6 X2.length c6) := hsn5.1.cell 1
            have hn1 : (Value.slice A6 X2.length c6).ownBlock ≠ some g := fun e => by have := (hown0.lt _ e).1; omega
            have Hn1 := Lib.hid hn1
            have Ho := Lib.hid hown0
            have Hv2 := Lib.hid hsn5
            clear hn1 hown0 hsn5
            refine wp_region_noPanic ?_
            refine wp_region_T (fun w' => w'.cell? ⟨g, 1, none⟩ = some (.slice A6 X2.length c6) ∧ w'.cell? ⟨w.heap.size, 2, none⟩ = some (.int .i64 v)) 10 (by kernel_rfl) ⟨x0, xp⟩ (fun hHeld => ?_)
            refine wpAnyT_take (i := 0) (v := ?_) rfl (by kernel_rfl) (by kernel_rfl) (by kernel_rfl) (by kernel_rfl) (fun _ _ _ h => h) (Or.inl ⟨by rfl, ?_⟩) (by assumption) ?_
            rotate_left
            · (intro w hSw; (try dsimp only at hSw); first | (go_simp; done) | (go_simp; with_reducible rfl))
            try simp only [Act.put, List.getElem_toArray, List.getElem_cons_zero, List.getElem_cons_succ, List.setIfInBounds_toArray, List.set_cons_zero, List.set_cons_succ]
            refine wpAnyT_take (i := 1) (v := ?_) rfl (by kernel_rfl) (by kernel_rfl) (by kernel_rfl) (by kernel_rfl) (fun _ _ _ h => h) (Or.inl ⟨by rfl, ?_⟩) (by assumption) ?_
            rotate_left
            · (intro w hSw; (try dsimp only at hSw); first | (go_simp; done) | (go_simp; with_reducible rfl))
            try simp only [Act.put, List.getElem_toArray, List.getElem_cons_zero, List.getElem_cons_succ, List.setIfInBounds_toArray, List.set_cons_zero, List.set_cons_succ]
            refine wpAnyT_take (i := 2) (v := ?_) rfl (by kernel_rfl) (by kernel_rfl) (by kernel_rfl) (by kernel_rfl) (fun _ _ _ h => h) (Or.inl ⟨by rfl, ?_⟩) (by assumption) ?_
            rotate_left
            · (intro w hSw; (try dsimp only at hSw); first | (go_simp; done) | (go_simp; with_reducible rfl))
            try simp only [Act.put, List.getElem_toArray, List.getElem_cons_zero, List.getElem_cons_succ, List.setIfInBounds_toArray, List.set_cons_zero, List.set_cons_succ]
            refine wpAnyT_take (i := 3) (v := ?_) rfl (by kernel_rfl) (by kernel_rfl) (by kernel_rfl) (by kernel_rfl) (fun _ _ _ h => h) (Or.inl ⟨by rfl, ?_⟩) (by assumption) ?_
            rotate_left
            · (intro w hSw; (try dsimp only at hSw); first | (go_simp; done) | (go_simp; with_reducible rfl))
            try simp only [Act.put, List.getElem_toArray, List.getElem_cons_zero, List.getElem_cons_succ, List.setIfInBounds_toArray, List.set_cons_zero, List.set_cons_succ]
            refine wpAnyT_take (i := 4) (v := ?_) rfl (by kernel_rfl) (by kernel_rfl) (by kernel_rfl) (by kernel_rfl) (fun _ _ _ h => h) (Or.inl ⟨by rfl, ?_⟩) (by assumption) ?_
            rotate_left
            · (intro w hSw; (try dsimp only at hSw); first | (go_simp; done) | (go_simp; with_reducible rfl))
            try simp only [Act.put, List.getElem_toArray, List.getElem_cons_zero, List.getElem_cons_succ, List.setIfInBounds_toArray, List.set_cons_zero, List.set_cons_succ]
            refine wpAnyT_take (i := 5) (v := ?_) rfl (by kernel_rfl) (by kernel_rfl) (by kernel_rfl) (by kernel_rfl) (fun _ _ _ h => h) (Or.inl ⟨by rfl, ?_⟩) (by assumption) ?_
            rotate_left
            · (intro w hSw; (try dsimp only at hSw); first | (go_simp; done) | (go_simp; with_reducible rfl))
            try simp only [Act.put, List.getElem_toArray, List.getElem_cons_zero, List.getElem_cons_succ, List.setIfInBounds_toArray, List.set_cons_zero, List.set_cons_succ]
            refine wpAnyT_take (i := 6) (v := ?_) rfl (by kernel_rfl) (by kernel_rfl) (by kernel_rfl) (by kernel_rfl) (fun _ _ _ h => h) (Or.inl ⟨by rfl, ?_⟩) (by assumption) ?_
            rotate_left
            · (intro w hSw; (try dsimp only at hSw); first | (go_simp; done) | (go_simp; with_reducible rfl))
            try simp only [Act.put, List.getElem_toArray, List.getElem_cons_zero, List.getElem_cons_succ, List.setIfInBounds_toArray, List.set_cons_zero, List.set_cons_succ]
            refine wpAnyT_take (i := 7) (v := ?_) rfl (by kernel_rfl) (by kernel_rfl) (by kernel_rfl) (by kernel_rfl) (fun _ _ _ h => h) (Or.inl ⟨by rfl, ?_⟩) (by assumption) ?_
            rotate_left
            · (intro w hSw; (try dsimp only at hSw); first | (go_simp; done) | (go_simp; with_reducible rfl))
            try simp only [Act.put, List.getElem_toArray, List.getElem_cons_zero, List.getElem_cons_succ, List.setIfInBounds_toArray, List.set_cons_zero, List.set_cons_succ]
            refine wpAnyT_step (i := 8) (by kernel_rfl) rfl (fun K hK => ?_)
            go_simp
            refine hK.out _ _ ⟨(World.cell?_alloc_lt _ _ ⟨g, 1, none⟩ hgs).trans x0, (World.cell?_alloc_lt _ _ ⟨w.heap.size, 2, none⟩ hps).trans xp⟩ ?_
            clear hK K
            try simp only [Act.put, List.getElem_toArray, List.getElem_cons_zero, List.getElem_cons_succ, List.setIfInBounds_toArray, List.set_cons_zero, List.set_cons_succ]
            refine wpAnyT_step (i := 9) (by kernel_rfl) rfl (fun K hK => ?_)
            (refine step_append_rd _ (by rfl) (.tmp 64) (.tmp 68) 42 (by rfl) (g + 1) 3 i0 _ 1 8 Tryd.underlying42 hi0 hz0 hz1 hz2 rfl (by omega) (.slice A6 X2.length c6) X2.length (X2.map (Value.int .i64)) (by rfl) (Ho.out.alloc _) _ (some ⟨W5.heap.size, 0, none⟩) 1 1 [.int .i64 v] (by rfl) (Rd.new _ [.int .i64 v] _) (by intro u hu; simp at hu; subst hu; rfl) (by unfold maxLen; omega) (by omega) (by simp; omega) ?_; intro v4 w4 ho4 hg4 hat4; obtain ⟨A4, c4, rfl⟩ := ownsRow_form ho4; have hg5 := grown_drew_alloc hg4; have hq4 := Blk.grown Hv2.out.1 hg5 (Ne.symm Hn1.out); have hp4 := (World.cell?_of_block (hg5.block w.heap.size hps (Ne.symm HnPP.out)) : w4.cell? ⟨w.heap.size, 2, none⟩ = W5.cell? ⟨w.heap.size, 2, none⟩).trans xp)
            refine hK.out _ _ ⟨hq4.cell 1, hp4⟩ ?_
            clear hK K
            try simp only [Act.put, List.getElem_toArray, List.getElem_cons_zero, List.getElem_cons_succ, List.setIfInBounds_toArray, List.set_cons_zero, List.set_cons_succ]
            have f2' : w4.frozen? ⟨g, 1, none⟩ = false := hq4.frozen 1
            have y1' : w4.cell? ⟨g, 1, none⟩ = some (.slice A6 X2.length c6) := hq4.cell 1
            refine wpAnyT_seq 10 (by omega) (by rfl) (by kernel_rfl) ?_
            simp only [List.drop_succ_cons, List.drop_zero]
            go_wp2_with fail
            refine NoPanic.normal ?_
            have hnt := Hv2.out.note2 (x := v) ho4 hg5 (hat4.imp id fun e => ⟨_, e, by simp⟩)
            have hsn6 := hnt.1
            have hso6 := hso5.trans hnt.2
            have hzr6 := hzr5.sout hnt.2 hpg (by decide)
            have hbw6 := hbw5.trans (hnt.2.1.mono hsg)
            have hcE6 : ∀ j, (w4.setCell ⟨g, 1, none⟩ (.slice A4 (X2.length + 1) c4)).cell? ⟨b, j, none⟩ = w0.cell? ⟨b, j, none⟩ := fun j => hbw6.cell (p := ⟨b, j, none⟩) hb
            clear hnt f2' y1' hp4 hq4 hg5 hat4 hg4 ho4 x0 xp Hn1 Ho Hv2 hcE hso5 hbw5 hzr5
            obtain ⟨W6, hW6⟩ : ∃ W6, w4.setCell ⟨g, 1, none⟩ (.slice A4 (X2.length + 1) c4) = W6 := ⟨_, rfl⟩
            have e9 : (X2 ++ [v]).length = X2.length + 1 := by simp
            obtain ⟨X2', hX2'⟩ : ∃ l, X2 ++ [v] = l := ⟨_, rfl⟩
            rw [hW6] at hsn6 hso6 hzr6 hbw6 hcE6 ⊢
            rw [hX2'] at hsn6 HE6 e9
            clear hW6 hX2'
            have y0 := (hcE6 _).trans f0
            have y1 := (hcE6 _).trans f1
            have y2 := (hcE6 _).trans f2
            have y3 := (hcE6 _).trans f3
            have y4 := (hcE6 _).trans f4
            have x4 := hzr6.cell 4
            have Hvr5 := Lib.hid (Hvr.out.trans hso6)
            have hsn5 := hsn6
            have hbw5 := hbw6
            clear hcE6 f0 f1 f2 f3 f4 hzr6 hso6 hsn6 hbw6 hgs hps
            have hq := Hih2.out W6 X1 X2' _ _ _ _ hbw5 hsn5 hsg (by omega) (by omega)
            have Hq := Lib.hid hq
            clear hq hbw5 hsn5
            go_wp2_with fail
            refine Hq.out.mono ?_
            rintro e w9 ⟨rfl, ⟨A7, c7, A8, c8, h9⟩, h10⟩
            clear Hq y0 y1 y2 y3 y4 x4
            go_wp2_with fail
            go_roundg (m - (k + 1))
            case measure => omega
            case rel => exact ⟨k + 1, A7, c7, A8, c8, by omega, rfl, by go_num, by rw [HE5.out, HE6.out]; exact h9, Hvr5.out.trans h10⟩
          · have dr : decide (r < 0) = false := by simpa using hr0
            have HE6 : Hid (addAll l2 (allM.go true v 0 (L.take (k + 1))) = addAll X2 (allM x)) := Lib.hid (by rw [he7, hneg.2 hr0])
            clear he7 hneg
            go_wp2_with fail
            refine wp_region_quiet_below (by kernel_rfl) (by kernel_rfl) ?_
            repeat (go_big_quiet_step ((first | (go_at_call 81; exact Calls.regrown_of (hq.out _ _)))))
            refine wpQuiet_nil ?_
            intro _ hw'
            obtain ⟨⟨dq, osq⟩, hw''⟩ := hw'
            subst hw''
            have hbr := below_regrown wr dq osq
            have hsn5 := Hsn.out.below hbr
            have hbw5 := Hbw.out.trans (hbr.mono (by omega))
            have hso5 := SOut.of_below (g := g) (by omega) hbr
            have hzr5 := Hzr.out.below hbr Hzr.out.lt
            have hpW := hzr5.lt
            have hcE : ∀ j, (Sort.grow (redrawn wr dq) osq).cell? ⟨b, j, none⟩ = w0.cell? ⟨b, j, none⟩ := fun j => hbw5.cell (p := ⟨b, j, none⟩) hb
            obtain ⟨W5, hW5⟩ : ∃ W5, Sort.grow (redrawn wr dq) osq = W5 := ⟨_, rfl⟩
            rw [hW5] at hsn5 hbw5 hso5 hzr5 hpW hcE ⊢
            clear hbr hW5 kz0 kz3 e0 e1 e2 e3 e4 z0 z4 z2 z3
            clear kz2 kq1 hq hr0 dr
            have y0 := (hcE _).trans f0
            have y1 := (hcE _).trans f1
            have y2 := (hcE _).trans f2
            have y3 := (hcE _).trans f3
            have y4 := (hcE _).trans f4
            have x4 := hzr5.cell 4
            have Hvr5 := Lib.hid (Hvr.out.trans hso5)
            clear hcE f0 f1 f2 f3 f4 hzr5 hso5
            have hq := Hih2.out W5 X1 X2 _ _ _ _ hbw5 hsn5 hsg (by omega) (by omega)
            have Hq := Lib.hid hq
            clear hq hbw5 hsn5
            go_wp2_with fail
            refine Hq.out.mono ?_
            rintro e w9 ⟨rfl, ⟨A7, c7, A8, c8, h9⟩, h10⟩
            clear Hq y0 y1 y2 y3 y4 x4
            go_wp2_with fail
            go_roundg (m - (k + 1))
            case measure => omega
            case rel => exact ⟨k + 1, A7, c7, A8, c8, by omega, rfl, by go_num, by rw [HE5.out, HE6.out]; exact h9, Hvr5.out.trans h10⟩
        | false =>
          have HE6 : Hid (addAll l2 (allM.go false v 0 (L.take (k + 1))) = addAll X2 (allM x)) := Lib.hid (by rw [he6]; rfl)
          clear hk1 he6
          go_wp2_with fail
          refine wp_region_quiet_below (by kernel_rfl) (by kernel_rfl) ?_
          repeat (go_big_quiet_step (fail))
          refine wpQuiet_nil ?_
          intro _ hw'
          obtain ⟨⟨dq, osq⟩, hw''⟩ := hw'
          subst hw''
          have hbr := below_regrown wr dq osq
          have hsn5 := Hsn.out.below hbr
          have hbw5 := Hbw.out.trans (hbr.mono (by omega))
          have hso5 := SOut.of_below (g := g) (by omega) hbr
          have hzr5 := Hzr.out.below hbr Hzr.out.lt
          have hpW := hzr5.lt
          have hcE : ∀ j, (Sort.grow (redrawn wr dq) osq).cell? ⟨b, j, none⟩ = w0.cell? ⟨b, j, none⟩ := fun j => hbw5.cell (p := ⟨b, j, none⟩) hb
          obtain ⟨W5, hW5⟩ : ∃ W5, Sort.grow (redrawn wr dq) osq = W5 := ⟨_, rfl⟩
          rw [hW5] at hsn5 hbw5 hso5 hzr5 hpW hcE ⊢
          clear hbr hW5 kz0 kz3 e0 e1 e2 e3 e4 z0 z4 z2 z3
          have y0 := (hcE _).trans f0
          have y1 := (hcE _).trans f1
          have y2 := (hcE _).trans f2
          have y3 := (hcE _).trans f3
          have y4 := (hcE _).trans f4
          have x4 := hzr5.cell 4
          have Hvr5 := Lib.hid (Hvr.out.trans hso5)
          clear hcE f0 f1 f2 f3 f4 hzr5 hso5
          have hq := Hih2.out W5 X1 X2 _ _ _ _ hbw5 hsn5 hsg (by omega) (by omega)
          have Hq := Lib.hid hq
          clear hq hbw5 hsn5
          go_wp2_with fail
          refine Hq.out.mono ?_
          rintro e w9 ⟨rfl, ⟨A7, c7, A8, c8, h9⟩, h10⟩
          clear Hq y0 y1 y2 y3 y4 x4
          go_wp2_with fail
          go_roundg (m - (k + 1))
          case measure => omega
          case rel => exact ⟨k + 1, A7, c7, A8, c8, by omega, rfl, by go_num, by rw [HE5.out, HE6.out]; exact h9, Hvr5.out.trans h10⟩
      · have dk1 : ((k : Int) == 1) = false := by simp; omega
        have HE6 : Hid (addAll l2 (allM.go f v 0 (L.take (k + 1))) = addAll X2 (allM x)) := Lib.hid (by rw [he6, decide_eq_false hk1, Bool.and_false]; rfl)
        clear hk1 he6
        go_wp2_with fail
        refine wp_region_quiet_below (by kernel_rfl) (by kernel_rfl) ?_
        repeat (go_big_quiet_step (fail))
        refine wpQuiet_nil ?_
        intro _ hw'
        obtain ⟨⟨dq, osq⟩, hw''⟩ := hw'
        subst hw''
        have hbr := below_regrown wr dq osq
        have hsn5 := Hsn.out.below hbr
        have hbw5 := Hbw.out.trans (hbr.mono (by omega))
        have hso5 := SOut.of_below (g := g) (by omega) hbr
        have hzr5 := Hzr.out.below hbr Hzr.out.lt
        have hpW := hzr5.lt
        have hcE : ∀ j, (Sort.grow (redrawn wr dq) osq).cell? ⟨b, j, none⟩ = w0.cell? ⟨b, j, none⟩ := fun j => hbw5.cell (p := ⟨b, j, none⟩) hb
        obtain ⟨W5, hW5⟩ : ∃ W5, Sort.grow (redrawn wr dq) osq = W5 := ⟨_, rfl⟩
        rw [hW5] at hsn5 hbw5 hso5 hzr5 hpW hcE ⊢
        clear hbr hW5 kz0 kz3 e0 e1 e2 e3 e4 z0 z4 z2 z3
        have y0 := (hcE _).trans f0
        have y1 := (hcE _).trans f1
        have y2 := (hcE _).trans f2
        have y3 := (hcE _).trans f3
        have y4 := (hcE _).trans f4
        have x4 := hzr5.cell 4
        have Hvr5 := Lib.hid (Hvr.out.trans hso5)
        clear hcE f0 f1 f2 f3 f4 hzr5 hso5
        have hq := Hih2.out W5 X1 X2 _ _ _ _ hbw5 hsn5 hsg (by omega) (by omega)
        have Hq := Lib.hid hq
        clear hq hbw5 hsn5
        go_wp2_with fail
        refine Hq.out.mono ?_
        rintro e w9 ⟨rfl, ⟨A7, c7, A8, c8, h9⟩, h10⟩
        clear Hq y0 y1 y2 y3 y4 x4
        go_wp2_with fail
        go_roundg (m - (k + 1))
        case measure => omega
        case rel => exact ⟨k + 1, A7, c7, A8, c8, by omega, rfl, by go_num, by rw [HE5.out, HE6.out]; exact h9, Hvr5.out.trans h10⟩
    · have d0 : decide (k < m) = false := by simpa using hkm
      have hall : L.take k = L := List.take_of_length_le (by omega)
      rw [hall] at hvr0
      have hzr := Hz.out.sout (Hvx.out.trans hvr) hpg (by decide)
      have z4 := hzr.cell 4
      have Hv0 := Lib.hid hvr0
      have Hvr := Lib.hid hvr
      clear hvr hvr0 hall hzr
      go_wp2_with fail
      go_end0
      refine ⟨rfl, ⟨A5, c5, A6, c6, ?_⟩, (Hvo.out.trans Hvx.out).trans Hvr.out⟩
      rw [HE1.out, HE2.out]
      exact Hv0.out
theorem see_any (g s0 : Nat) (w0 : World) (t : TyD) : SeeAt g s0 w0 t := by
  induction t using ty_ind with
  | h t ih =>
    obtain ⟨k, n, v, c, L⟩ := t
    have ih : ∀ x ∈ L, SeeAt g s0 w0 x := ih
    by_cases h1 : k = 1
    · subst h1; exact see_var g s0 w0 n v c L ih
    · by_cases h7 : k = 7
      · subst h7; exact see_fun g s0 w0 n v c L ih
      · exact see_else g s0 w0 k n v c L h1 h7 ih
end Go.Proofs.YtidamlkekgnhgaaDoor

/- Contracts: usufructref06.Vars; slices.Equal at ints. -/
namespace Go.Proofs.YtidamlkekgnhgaaDoor
set_option linter.unusedVariables false
set_option linter.unusedSimpArgs false
open Go.RowKit

/-- what the reference's Vars returns -/
def RetSeen (l1 l2 : List Int) (w : World) (e : Ending) (w' : World) : Prop :=
  ∃ A1 n1 c1 A2 n2 c2, e = .returned (.agg #[.slice A1 n1 c1, .slice A2 n2 c2]) ∧ RdI .i64 w' w'.heap.size A1 n1 c1 l1 ∧ RdI .i64 w' w'.heap.size A2 n2 c2 l2 ∧ Below w.heap.size w w'
set_option maxRecDepth 100000 in
set_option maxHeartbeats 4000000 in
theorem refVars_any {t : TyD} {l1 l2 : List Int} (h1 : varsT t = l1) (h2 : multsT t = l2) (A : Option Addr) (m cp : Nat) (w : World) (hl : TysV w w.heap.size A m cp t.l) (hn : nodes t ≤ 1099511627776) :
    Calls Tryd.prog 36 #[.agg #[.int .u8 t.k, .int .i64 t.n, .int .i64 t.v, .int .u8 t.c, .slice A m cp]] w (RetSeen l1 l2 w) := by
  obtain ⟨W, hW⟩ : ∃ W, ((w.alloc (Obj.cells #[.int .u8 t.k, .int .i64 t.n, .int .i64 t.v, .int .u8 t.c, .slice A m cp] 27)).alloc (Obj.cells #[.slice none 0 0, .slice none 0 0] 62)).alloc (Obj.cells #[.slice none 0 0, .slice none 0 0] 62) = W := ⟨_, rfl⟩
  have hb : Below w.heap.size w W := by rw [← hW]; exact ((Below.refl _ _).alloc (Nat.le_refl _) _).alloc (by simp) _ |>.alloc (by simp; omega) _
  have hsz : W.heap.size = w.heap.size + 1 + 1 + 1 := by rw [← hW]; simp
  have hz : Blk W w.heap.size 27 #[.int .u8 t.k, .int .i64 t.n, .int .i64 t.v, .int .u8 t.c, .slice A m cp] := by
    rw [← hW]; exact ((blk_new w _ _).alloc _).alloc _
  have hy : Blk W (w.heap.size + 1) 62 #[.slice none 0 0, .slice none 0 0] := by
    rw [← hW]; have := (blk_new (w.alloc (Obj.cells #[.int .u8 t.k, .int .i64 t.n, .int .i64 t.v, .int .u8 t.c, .slice A m cp] 27)) #[.slice none 0 0, .slice none 0 0] 62).alloc (Obj.cells #[.slice none 0 0, .slice none 0 0] 62)
    rwa [World.size_alloc] at this
  have hx : Blk W (w.heap.size + 1 + 1) 62 #[.slice none 0 0, .slice none 0 0] := by
    rw [← hW]; have := blk_new ((w.alloc (Obj.cells #[.int .u8 t.k, .int .i64 t.n, .int .i64 t.v, .int .u8 t.c, .slice A m cp] 27)).alloc (Obj.cells #[.slice none 0 0, .slice none 0 0] 62)) #[.slice none 0 0, .slice none 0 0] 62
    rwa [World.size_alloc, World.size_alloc] at this
  have hq := see_any (w.heap.size + 1 + 1) w.heap.size W t A m cp (hl.below hb) W [] [] none 0 none 0 (Below.refl _ _) ⟨hx, World.ownsRow_nil _ _ _ _, World.ownsRow_nil _ _ _ _, fun a b h => by cases h⟩ (by omega) (by simpa using hn) (by simpa using hn)
  have e1 : addAll [] (allV t) = l1 := h1
  have e2 : addAll [] (allM t) = l2 := h2
  rw [e1, e2] at hq
  have z0 := hz.cell 0
  have z1 := hz.cell 1
  have z2 := hz.cell 2
  have z3 := hz.cell 3
  have z4 := hz.cell 4
  have HW := Lib.hid hW
  have Hb := Lib.hid hb
  have Hy := Lib.hid hy
  have Hq := Lib.hid hq
  clear hW hb hsz hz hy hx hq e1 e2 h1 h2 hl
  go_enter Tryd.func36, Tryd.ntmps36
  go_wp2_with fail
  rw [HW.out]
  go_wp2_with fail
  refine Hq.out.mono ?_; rintro e w1 ⟨rfl, ⟨A1, c1, A2, c2, hs⟩, ho⟩
  have hy1 := Hy.out.sout ho (by omega) (by decide)
  have hb1 := Hb.out.trans (ho.1.mono (by omega))
  have x0 := hs.1.cell 0
  have x1 := hs.1.cell 1
  have y0 := hy1.cell 0
  have y1 := hy1.cell 1
  have f0 := hy1.frozen 0
  have f1 := hy1.frozen 1
  have hle : w.heap.size ≤ w.heap.size + 1 := by omega
  have hne : w.heap.size + 1 + 1 ≠ w.heap.size + 1 := by omega
  have hs9 : Blk ((w1.setCell ⟨w.heap.size + 1, 0, none⟩ (.slice A1 l1.length c1)).setCell ⟨w.heap.size + 1, 1, none⟩ (.slice A2 l2.length c2)) (w.heap.size + 1) 62 #[.slice A1 l1.length c1, .slice A2 l2.length c2] := (hy1.set_ 0 (.slice A1 l1.length c1)).set_ 1 (.slice A2 l2.length c2)
  have hb9 := (hb1.setCell (p := ⟨w.heap.size + 1, 0, none⟩) hle (.slice A1 l1.length c1)).setCell (p := ⟨w.heap.size + 1, 1, none⟩) hle (.slice A2 l2.length c2)
  have hlt : ∀ (W' : World) (i : Nat) (v : Value) (n : Nat) (v2 : Value) (xs : List Value), W'.ownsRow (w.heap.size + 1 + 1 + 1) 3 1 v2 n xs → (W'.setCell ⟨w.heap.size + 1, i, none⟩ v).ownsRow (w.heap.size + 1 + 1 + 1) 3 1 v2 n xs := fun W' i v n v2 xs h => ownsRow_setCell_below h (by show w.heap.size + 1 < w.heap.size + 1 + 1 + 1; omega) v
  have r1 := RdI.of_own (hlt _ 1 (.slice A2 l2.length c2) _ _ _ (hlt _ 0 (.slice A1 l1.length c1) _ _ _ hs.2.1))
  have r2 := RdI.of_own (hlt _ 1 (.slice A2 l2.length c2) _ _ _ (hlt _ 0 (.slice A1 l1.length c1) _ _ _ hs.2.2.1))
  have Hr1 := Lib.hid r1
  have Hr2 := Lib.hid r2
  have Hb9 := Lib.hid hb9
  have Hs9 := Lib.hid hs9
  clear hy1 hb1 hs9 hb9 hlt r1 r2 hs ho Hq Hy
  go_wp2_with fail
  generalize (w1.setCell ⟨w.heap.size + 1, 0, none⟩ (.slice A1 l1.length c1)).setCell ⟨w.heap.size + 1, 1, none⟩ (.slice A2 l2.length c2) = W9 at Hr1 Hr2 Hb9 Hs9 ⊢
  have d0 := Hs9.out.cell 0
  have d1 := Hs9.out.cell 1
  exact bodyPost_ret (v := .agg #[.slice A1 l1.length c1, .slice A2 l2.length c2]) (by simp [results, Tryd.results36, go_sem, d0, d1]) rfl ⟨A1, l1.length, c1, A2, l2.length, c2, rfl, Hr1.out, Hr2.out, Hb9.out⟩
end Go.Proofs.YtidamlkekgnhgaaDoor

/- append of one element of any type, as a step of a region. -/
namespace Go.Proofs.YtidamlkekgnhgaaDoor
set_option linter.unusedVariables false
set_option linter.unusedSimpArgs false
open Go.RowKit
section
variable {P : Program}
/-- the same, one step of a region -/
theorem step_append_cel {ops : Array Oper} {o : Oper} {a : Act} {K : Act → World → Prop} {Q : Exit → Act → World → Prop} {E : Prop} {B0 : Nat} (w0 w : World) (hgd : o.guard = none) (s x : Operand) (t : TypeId)
    (ho : o.op = .call { callee := .builtin .append, args := #[s, x], argTypes := #[t, t] })
    (base : Nat) (e : TypeId) (i : TypeInfo) (z : Value) (k bytes : Nat) (ht : P.underlying t = some (.slice e)) (hi : P.info? e = some i) (hz : i.zero = some z)
    (hsize : i.size = k) (hby : i.bytes = bytes) (hzs : z.cells.size = k) (hsz : 0 < k) (R : Nat → Prop)
    (v : Value) (n : Nat) (l : List Cel) (hs : a.eval s = v) (cs : List Value) (c : List Cel) (hcs : cs.length = k) (h1 : ∀ u ∈ cs, u.oneCell' = true) (hx : a.eval x = .slice (some ⟨w.heap.size, 0, none⟩) 1 1)
    (hown : OwnC w base e k R v n l) (hc : CelsV w (fun b => b < w.heap.size ∧ some b ≠ v.ownBlock ∧ ¬ R b) c cs) (h63 : n + 1 ≤ maxLen) (hbytes : (n + 1) * bytes ≤ 140737488355328) (hbel : Below B0 w0 w) (hB0 : B0 ≤ base) (hbase : base ≤ w.heap.size)
    (h : ∀ A' c' w', OwnC w' base e k R (.slice A' (n + 1) c') (n + 1) (l ++ c) → Below B0 w0 w' → w.grownBy w' v.ownBlock → w.heap.size ≤ w'.heap.size → ((Value.slice A' (n + 1) c').ownBlock = v.ownBlock ∨ (Value.slice A' (n + 1) c').ownBlock = some (w.heap.size + 1)) → K (a.put o.dst (.slice A' (n + 1) c')) w') :
    if Region.wanted o (yielded ops a.tmps) = true then Oper.wp P o a (w.alloc (Obj.cells cs.toArray e)) K Q else E := by
  obtain ⟨hl, cs0, hown0, hv0⟩ := hown
  have hrd : Rd (w.alloc (Obj.cells cs.toArray e)) (w.heap.size + 1) k (some ⟨w.heap.size, 0, none⟩) 1 cs :=
    ⟨by rw [hcs, Nat.one_mul], fun _ => ⟨w.heap.size, 0, rfl, Nat.lt_succ_self _, fun j u hu => by rw [Nat.zero_add, World.cell?_alloc_new]; simpa using hu⟩⟩
  refine step_append_rd (w.alloc (Obj.cells cs.toArray e)) hgd s x t ho base e i z k bytes ht hi hz hsize hby hzs hsz v n cs0 hs (hown0.alloc _) (w.heap.size + 1) _ 1 1 cs hx hrd h1 h63 hbytes (by rw [World.size_alloc]; omega) fun v' w' h2 h3 h4 => ?_
  obtain ⟨A', c', rfl⟩ := ownsRow_form h2
  have hg : w.grownBy w' v.ownBlock := ⟨h3.os, h3.tape, h3.output, Nat.le_trans (by rw [World.size_alloc]; omega) h3.size, fun k hk hne => (h3.block k (by rw [World.size_alloc]; omega) hne).trans (Below.heap_alloc w _ k hk)⟩
  rw [World.size_alloc] at h4
  have hne : ∀ b, b < w.heap.size → some b ≠ v.ownBlock → some b ≠ (Value.slice A' (n + 1) c').ownBlock := fun b hb hn e => by
    rcases h4 with h4 | h4
    · exact hn (by rw [e, h4])
    · rw [h4] at e
      injection e with e
      omega
  have hkk : ∀ p : Addr, (p.block < w.heap.size ∧ some p.block ≠ v.ownBlock ∧ ¬ R p.block) → w'.cell? p = w.cell? p := fun p hp => World.cell?_of_block (hg.block p.block hp.1 hp.2.1)
  refine h A' c' w' ⟨?_, cs0 ++ cs, h2, ?_⟩ ?_ hg hg.size h4
  · have := hc.len
    rw [List.length_append, hl, Nat.add_mul, Nat.one_mul]
    omega
  · refine CelsV.keep (fun b hb => ⟨Nat.lt_of_lt_of_le hb.1 hg.size, hne b hb.1 hb.2.1, hb.2.2⟩) hkk (hv0.append hc)
  · have hb2 : Below base w0 w' → Below B0 w0 w' := fun h => h.mono hB0
    refine ⟨h3.os.trans hbel.os, h3.tape.trans hbel.tape, h3.output.trans hbel.output, Nat.le_trans hbel.size hg.size, fun b hb => ?_⟩
    have hbw : b < w.heap.size := by omega
    refine (hg.block b hbw fun e => ?_).trans (hbel.block b hb)
    have := (hown0.lt b e.symm).1
    omega
end
end Go.Proofs.YtidamlkekgnhgaaDoor

/- The contract of usufructref06.Put. -/
namespace Go.Proofs.YtidamlkekgnhgaaDoor
set_option linter.unusedVariables false
set_option linter.unusedSimpArgs false
open Go.RowKit
attribute [local go_sem ↓] Go.wp_at_zero Go.wp_at_succ

/-- a type whose memory lies below K, or is new -/
def RetK (K : Nat) (u : TyD) (w : World) (e : Ending) (w' : World) : Prop :=
  ∃ A m cp, e = .returned (.agg #[.int .u8 u.k, .int .i64 u.n, .int .i64 u.v, .int .u8 u.c, .slice A m cp]) ∧ TysS w' (fun b => b < K ∨ (w.heap.size ≤ b ∧ b < w'.heap.size)) A m cp u.l ∧ Below w.heap.size w w'
/-- the three boxes of a call: the type, its result, what it makes -/
structure Three (t : TyD) (A : Option Addr) (m cp : Nat) (w W : World) : Prop where
  eq : (w.alloc (Obj.cells #[.int .u8 t.k, .int .i64 t.n, .int .i64 t.v, .int .u8 t.c, .slice A m cp] 27)).alloc (Obj.cells #[.int .u8 0, .int .i64 0, .int .i64 0, .int .u8 0, .slice none 0 0] 27) = W
  bel : Below w.heap.size w W
  size : W.heap.size = w.heap.size + 1 + 1
  bt : Blk W w.heap.size 27 #[.int .u8 t.k, .int .i64 t.n, .int .i64 t.v, .int .u8 t.c, .slice A m cp]
  br : Blk W (w.heap.size + 1) 27 #[.int .u8 0, .int .i64 0, .int .i64 0, .int .u8 0, .slice none 0 0]
theorem three_new (t : TyD) (A : Option Addr) (m cp : Nat) (w : World) : ∃ W, Three t A m cp w W := by
  obtain ⟨W1, hW1⟩ : ∃ W, w.alloc (Obj.cells #[.int .u8 t.k, .int .i64 t.n, .int .i64 t.v, .int .u8 t.c, .slice A m cp] 27) = W := ⟨_, rfl⟩
  have hb1 := below_box (w := w) (Obj.cells #[.int .u8 t.k, .int .i64 t.n, .int .i64 t.v, .int .u8 t.c, .slice A m cp] 27)
  have x1 := blk_new w #[.int .u8 t.k, .int .i64 t.n, .int .i64 t.v, .int .u8 t.c, .slice A m cp] 27
  have hs1 : W1.heap.size = w.heap.size + 1 := by rw [← hW1]; simp
  rw [hW1] at hb1 x1
  have hb2 := below_box (w := W1) (Obj.cells #[.int .u8 0, .int .i64 0, .int .i64 0, .int .u8 0, .slice none 0 0] 27)
  have x2 := blk_new W1 #[.int .u8 0, .int .i64 0, .int .i64 0, .int .u8 0, .slice none 0 0] 27
  rw [hs1] at x2
  exact ⟨W1.alloc (Obj.cells #[.int .u8 0, .int .i64 0, .int .i64 0, .int .u8 0, .slice none 0 0] 27), by rw [hW1], hb1.trans (hb2.mono hb1.size), by simp [hs1], x1.below hb2 x1.lt, x2⟩
/-- a type that is being made: its box, and the types within that are there -/
def OutAt (w : World) (g base : Nat) (R : Nat → Prop) (k n v c : Int) (l : List TyD) (A5 : Option Addr) (c5 : Nat) : Prop :=
  Blk w g 27 #[.int .u8 k, .int .i64 n, .int .i64 v, .int .u8 c, .slice A5 l.length c5] ∧ OwnC w base 27 5 R (.slice A5 l.length c5) l.length (l.flatMap encT) ∧ R g ∧ g < base
theorem OutAt.below {w w' : World} {g base : Nat} {R : Nat → Prop} {k n v c : Int} {l : List TyD} {A5 : Option Addr} {c5 : Nat} (h : OutAt w g base R k n v c l A5 c5) (hb : Below w.heap.size w w') : OutAt w' g base R k n v c l A5 c5 :=
  ⟨h.1.below hb h.1.lt, h.2.1.beyond hb, h.2.2⟩
theorem OutAt.push {w w' : World} {g base : Nat} {R : Nat → Prop} {k n v c : Int} {l : List TyD} {A5 A6 : Option Addr} {c5 c6 : Nat} (h : OutAt w g base R k n v c l A5 c5) (u : TyD) (ho : OwnC w' base 27 5 R (.slice A6 (l.length + 1) c6) (l.length + 1) (l.flatMap encT ++ encT u)) (hg : w.grownBy w' (Value.slice A5 l.length c5).ownBlock) :
    OutAt (w'.setCell ⟨g, 4, none⟩ (.slice A6 (l.length + 1) c6)) g base R k n v c (l ++ [u]) A6 c6 := by
  have hgb : some g ≠ (Value.slice A5 l.length c5).ownBlock := fun e => by have := (h.2.1.lt _ e.symm).1; have := h.2.2.2; omega
  have hk := h.1.grown hg hgb
  have e1 : (l ++ [u]).length = l.length + 1 := by simp
  have e2 : (l ++ [u]).flatMap encT = l.flatMap encT ++ encT u := by simp
  refine ⟨?_, ?_, h.2.2⟩
  · rw [e1]; exact hk.set_ 4 _
  · rw [e1, e2]; exact ho.set (by exact h.2.2.2) (by exact h.2.2.1) _
/-- what was made is handed on -/
theorem OutAt.done {w : World} {g base K s : Nat} {k n v c : Int} {l : List TyD} {A5 : Option Addr} {c5 : Nat} (h : OutAt w g base (fun b => K ≤ b ∧ b < base) k n v c l A5 c5) (hs : s ≤ base) (hK : K ≤ s) : TysS w (fun b => b < K ∨ (s ≤ b ∧ b < w.heap.size)) A5 l.length c5 l := by
  have h2 := (h.2.1.cel (R' := fun b => K ≤ b ∧ b < base) (fun _ h => h) (fun b hb h => by omega)).mono (S' := fun b => b < K ∨ (s ≤ b ∧ b < w.heap.size)) fun b hb => by
    have := hb.2
    by_cases h : K ≤ b
    · exact .inr ⟨by have : ¬ b < base := fun h3 => this ⟨h, h3⟩; omega, hb.1⟩
    · exact .inl (by omega)
  obtain ⟨A', m', c', e, h3⟩ := (sl_iff encT_len (by omega)).1 h2
  injection e with e1 e2 e3
  subst e1; subst e2; subst e3
  exact tysS_sl.2 h3
theorem leaf_turn {fv : Int → Option TyD} {fm : Int → Int × Int} {t : TyD} (ht : mayT t = true) (hk : t.k = 1) (hv : fv t.n = none) : turnT fv fm t = .mk t.k t.n t.v t.c (t.l.map (turnT fv fm)) := by
  rw [turnT_eq, if_pos hk, hv, may_leaf ht (by omega)]
  have h := mayT_leaf ht hk
  exact ty_ext rfl rfl rfl rfl h
set_option maxRecDepth 100000 in
set_option maxHeartbeats 8000000 in
theorem refPut_go (Kb : Nat) (A1 : Option Addr) (n1 c1 : Nat) (types : List TyD) (A2 : Option Addr) (n2 c2 : Nat) (ms : List (Int × Int)) (N : Nat) : ∀ (t : TyD), nodes t ≤ N → mayT t = true → ∀ (A : Option Addr) (m cp : Nat) (w : World), TysV w w.heap.size A m cp t.l → TysV w Kb A1 n1 c1 types → Kb ≤ w.heap.size → MusV w w.heap.size A2 n2 c2 ms →
    Calls Tryd.prog 35 #[.agg #[.int .u8 t.k, .int .i64 t.n, .int .i64 t.v, .int .u8 t.c, .slice A m cp], .slice A1 n1 c1, .slice A2 n2 c2] w (RetK Kb (turnT (putV types) (putM ms) t) w) := by
  induction N with
  | zero => intro t hN; exact absurd hN (by rw [nodes_eq t]; omega)
  | succ N ih =>
    intro t hN hm A m cp w hl hts hK hms
    obtain ⟨i0, hi0, hz0, hz1, hz2⟩ := info_parts typeInfo
    obtain ⟨U, hU⟩ : ∃ U, turnT (putV types) (putM ms) = U := ⟨_, rfl⟩
    obtain ⟨W, h3⟩ := three_new t A m cp w
    have lent := hts.len
    have lenm := hms.len
    have hlen := hl.len
    have m63 : m ≤ 9223372036854775807 := Nat.le_trans hl.2.1 hl.2.2.1
    have n163 : n1 ≤ 9223372036854775807 := Nat.le_trans hts.2.1 hts.2.2.1
    have n263 : n2 ≤ 9223372036854775807 := Nat.le_trans hms.2.1 hms.2.2.1
    have hn0 := mayT_n hm
    have hv0 := mayT_v hm
    have HN : Hid (∀ i (h : i < t.l.length), nodes t.l[i] ≤ N) := Lib.hid fun i h => by have := nodes_get h; omega
    have HM := Lib.hid hm
    have HL := Lib.hid hl
    have HT := Lib.hid hts
    have HMs := Lib.hid hms
    have HW := Lib.hid h3.eq
    have Hb := Lib.hid h3.bel
    have Hz := Lib.hid h3.bt
    have Hy := Lib.hid h3.br
    have hsz : W.heap.size = w.heap.size + 1 + 1 := h3.size
    simp only [hU] at ih
    have Ih := Lib.hid ih
    have HU := Lib.hid hU
    have z0 := h3.bt.cell 0
    have z1 := h3.bt.cell 1
    have z2 := h3.bt.cell 2
    have z3 := h3.bt.cell 3
    have z4 := h3.bt.cell 4
    clear h3 hl hts hms hm hN ih hU
    by_cases hvar : t.k = 1 ∧ t.n < n1
    · obtain ⟨hk, hlt⟩ := hvar
      have d1 : (t.k == 1) = true := by simp [hk]
      have d2 : decide (t.n < n1) = true := by simpa using hlt
      have hi : t.n.toNat < types.length := by omega
      obtain ⟨b, off, rfl, hbk, hc0⟩ := HT.out.at_ (by omega)
      have hc := hc0 t.n.toNat hi
      obtain ⟨g0, g1, g2, g3, Ax, mx, cx, g4, hx⟩ := tyAt_iff.1 hc
      have hcW : ∀ j, W.cell? ⟨b, j, none⟩ = w.cell? ⟨b, j, none⟩ := fun j => Hb.out.cell (p := ⟨b, j, none⟩) (by show b < w.heap.size; omega)
      have e0 := (hcW _).trans g0
      have e1 := (hcW _).trans g1
      have e2 := (hcW _).trans g2
      have e3 := (hcW _).trans g3
      have e4 := (hcW _).trans g4
      clear g0 g1 g2 g3 g4 hcW hc0
      have hux : turnT (putV types) (putM ms) t = types[t.n.toNat] := by
        rw [turnT_eq, if_pos hk]
        unfold putV
        rw [if_pos (by omega), List.getElem?_eq_getElem hi]; rfl
      obtain ⟨x, hxk⟩ : ∃ x, types[t.n.toNat] = x := ⟨_, rfl⟩
      rw [hxk] at e0 e1 e2 e3 hx hux
      rw [← HW.out] at e0 e1 e2 e3 e4
      have Hux := Lib.hid hux
      have Hx0 := Lib.hid hx
      clear hc hx hux hxk hk z0 z1 z2 z3 z4
      go_enter Tryd.func35, Tryd.ntmps35
      go_wp2_with fail
      have hb1 := below_box (w := w) (Obj.cells #[.int .u8 t.k, .int .i64 t.n, .int .i64 t.v, .int .u8 t.c, .slice A m cp] 27)
      have hs9 := blk_new (w.alloc (Obj.cells #[.int .u8 t.k, .int .i64 t.n, .int .i64 t.v, .int .u8 t.c, .slice A m cp] 27)) #[.int .u8 x.k, .int .i64 x.n, .int .i64 x.v, .int .u8 x.c, .slice Ax mx cx] 27
      have hb2 := below_box (w := w.alloc (Obj.cells #[.int .u8 t.k, .int .i64 t.n, .int .i64 t.v, .int .u8 t.c, .slice A m cp] 27)) (Obj.cells #[.int .u8 x.k, .int .i64 x.n, .int .i64 x.v, .int .u8 x.c, .slice Ax mx cx] 27)
      rw [World.size_alloc] at hs9
      have hb9 := hb1.trans (hb2.mono hb1.size)
      have hT : TysV ((w.alloc (Obj.cells #[.int .u8 t.k, .int .i64 t.n, .int .i64 t.v, .int .u8 t.c, .slice A m cp] 27)).alloc (Obj.cells #[.int .u8 x.k, .int .i64 x.n, .int .i64 x.v, .int .u8 x.c, .slice Ax mx cx] 27)) Kb Ax mx cx x.l := Hx0.out.below (hb9.mono hK)
      generalize (w.alloc (Obj.cells #[.int .u8 t.k, .int .i64 t.n, .int .i64 t.v, .int .u8 t.c, .slice A m cp] 27)).alloc (Obj.cells #[.int .u8 x.k, .int .i64 x.n, .int .i64 x.v, .int .u8 x.c, .slice Ax mx cx] 27) = W9 at hs9 hb9 hT ⊢
      have d0' := hs9.cell 0
      have d1' := hs9.cell 1
      have d2' := hs9.cell 2
      have d3' := hs9.cell 3
      have d4' := hs9.cell 4
      exact bodyPost_ret (v := .agg #[.int .u8 x.k, .int .i64 x.n, .int .i64 x.v, .int .u8 x.c, .slice Ax mx cx]) (by simp [results, Tryd.results35, go_sem, d0', d1', d2', d3', d4']) rfl (by rw [Hux.out]; exact ⟨Ax, mx, cx, rfl, (TysV.in_ hT).mono fun b hb => .inl hb, hb9⟩)
    · have hvn : t.k = 1 → putV types t.n = none := fun hk => by
        unfold putV
        rw [if_neg (fun h => hvar ⟨hk, by omega⟩)]
      have hle2 : w.heap.size ≤ w.heap.size + 1 + 1 := by omega
      have hlt0 : w.heap.size < w.heap.size + 1 + 1 := by omega
      by_cases h7 : t.k = 7
      · have d7 : (t.k == 7) = true := by simp [h7]
        have d1 : (t.k == 1) = false := by simp [h7]
        have h1 : ¬ t.k = 1 := by omega
        by_cases hc : t.c = 0
        · have dc : (t.c == 0) = true := by simp [hc]
          by_cases hv : t.v < n2
          · have dv : decide (t.v < n2) = true := by simpa using hv
            have hi : t.v.toNat < ms.length := by omega
            obtain ⟨b, off, rfl, hbk, hcc⟩ := HMs.out.2.2.2 (by omega)
            have e0 := (Hb.out.cell (p := ⟨b, off + t.v.toNat * 2, none⟩) hbk).trans (hcc t.v.toNat hi).1
            have e1 := (Hb.out.cell (p := ⟨b, off + t.v.toNat * 2 + 1, none⟩) hbk).trans (hcc t.v.toNat hi).2
            have hpm : putM ms t.v = ms[t.v.toNat] := by unfold putM; rw [if_pos (by omega), List.getD_eq_getElem?_getD, List.getElem?_eq_getElem hi]; rfl
            obtain ⟨q, hq⟩ : ∃ q, ms[t.v.toNat] = q := ⟨_, rfl⟩
            rw [hq] at e0 e1 hpm
            have HR : Hid (turnT (putV types) (putM ms) t = .mk t.k t.n q.1 q.2 (t.l.map U)) := Lib.hid (by rw [turnT_eq, if_neg h1, if_pos ⟨h7, hc⟩, if_pos ⟨h7, hc⟩, hpm, HU.out])
            have e0' := (World.cell?_alloc_lt W (Obj.cells #[.int .u8 t.k, .int .i64 t.n, .int .i64 t.v, .int .u8 t.c, .slice none 0 0] 27) ⟨b, off + t.v.toNat * 2, none⟩ (by show b < W.heap.size; omega)).trans e0
            have e1' := (World.cell?_alloc_lt W (Obj.cells #[.int .u8 t.k, .int .i64 t.n, .int .i64 t.v, .int .u8 t.c, .slice none 0 0] 27) ⟨b, off + t.v.toNat * 2 + 1, none⟩ (by show b < W.heap.size; omega)).trans e1
            rw [← HW.out] at e0' e1'
            clear hcc hpm hq h1 h7 hc hvn hvar e0 e1
            have HOut : Hid (OutAt (W.alloc (Obj.cells #[.int .u8 t.k, .int .i64 t.n, .int .i64 (q.1), .int .u8 (q.2), .slice none 0 0] 27)) (w.heap.size + 1 + 1) (w.heap.size + 1 + 1 + 1) (fun b => Kb ≤ b ∧ b < w.heap.size + 1 + 1 + 1) t.k t.n (q.1) (q.2) [] none 0) := Lib.hid ⟨by rw [← hsz]; exact blk_new W _ _, OwnC.nil, ⟨by omega, by omega⟩, by omega⟩
            have Hbx := Lib.hid (below_box (w := W) (Obj.cells #[.int .u8 t.k, .int .i64 t.n, .int .i64 (q.1), .int .u8 (q.2), .slice none 0 0] 27))
            go_enter Tryd.func35, Tryd.ntmps35
            go_wp2_with fail
            rw [HW.out]
            obtain ⟨W7, hW7⟩ : ∃ W7, W.alloc (Obj.cells #[.int .u8 t.k, .int .i64 t.n, .int .i64 (q.1), .int .u8 (q.2), .slice none 0 0] 27) = W7 := ⟨_, rfl⟩
            rw [hW7] at HOut Hbx ⊢
            have hout := HOut.out
            have Hb7 := Lib.hid (Hb.out.trans (Hbx.out.mono Hb.out.size))
            have Hz7 := Lib.hid (Hz.out.below Hbx.out Hz.out.lt)
            have Hy7 := Lib.hid (Hy.out.below Hbx.out Hy.out.lt)
            clear hW7 HOut z0 z1 z2 z3 z4
            clear e0' e1'
            have HoutI : Hid (OutAt W7 (w.heap.size + 1 + 1) (w.heap.size + 1 + 1 + 1) (fun b => Kb ≤ b ∧ b < w.heap.size + 1 + 1 + 1) t.k t.n (q.1) (q.2) [] none 0) := Lib.hid hout
            clear hout
            go_loopg [8] m (fun gh i wr => ∃ (k : Nat) (A5 : Option Addr) (c5 : Nat), k ≤ m ∧ gh = m - k ∧ i = .int .i64 k ∧ OutAt wr (w.heap.size + 1 + 1) (w.heap.size + 1 + 1 + 1) (fun b => Kb ≤ b ∧ b < w.heap.size + 1 + 1 + 1) t.k t.n (q.1) (q.2) ((t.l.take k).map U) A5 c5 ∧ Below (w.heap.size + 1 + 1) W7 wr)
            case atStart => exact ⟨0, none, 0, Nat.zero_le _, rfl, rfl, HoutI.out, Below.refl _ _⟩
            case round =>
              obtain ⟨k, A5, c5, hk, rfl, rfl, hO, hbel⟩ := hrel
              have hW7r := Hb7.out.trans (hbel.mono hle2)
              have hzr := Hz7.out.below hbel hlt0
              have z4 := hzr.cell 4
              by_cases hkm : k < m
              · have d0 : decide (k < m) = true := by simpa using hkm
                have hk' : k < t.l.length := by omega
                have hlk : ((t.l.take k).map U).length = k := by rw [List.length_map, List.length_take]; omega
                obtain ⟨b, off, rfl, hb, hc⟩ := (HL.out.below hW7r).at_ (by omega)
                obtain ⟨e0, e1, e2, e3, Ax, mx, cx, e4, hx⟩ := tyAt_iff.1 (hc k hk')
                have hmx := mayT_kid HM.out hk'
                have hnx := HN.out k hk'
                have hst : (t.l.take (k + 1)).map U = (t.l.take k).map U ++ [U t.l[k]] := by rw [List.take_succ_eq_append_getElem hk', List.map_append]; rfl
                obtain ⟨x, hxk⟩ : ∃ x, t.l[k] = x := ⟨_, rfl⟩
                rw [hxk] at e0 e1 e2 e3 hx hmx hnx hst
                have hsr : w.heap.size + 1 + 1 + 1 ≤ wr.heap.size := by have := hO.1.lt; omega
                have h0w : Below w.heap.size w wr := hW7r
                have h0K : Below Kb w wr := hW7r.mono hK
                have hq := fun (W' : World) (h : Below wr.heap.size wr W') => Ih.out x hnx hmx Ax mx cx W' (((hx.more (by omega)).fresh h)) (HT.out.below (h0K.trans (h.mono (by omega)))) (by have := h.size; omega) ((HMs.out.fresh h0w).fresh h)
                obtain ⟨u, hu⟩ : ∃ u, U x = u := ⟨_, rfl⟩
                rw [hu] at hst
                simp only [hu] at hq
                obtain ⟨X, hX⟩ : ∃ X, (t.l.take k).map U = X := ⟨_, rfl⟩
                rw [hX] at hO hlk hst
                have x4 := hO.1.cell 4
                have hbr : b < wr.heap.size := by omega
                have HO := Lib.hid hO
                have Hq := Lib.hid hq
                have Hu := Lib.hid hu
                have Hst := Lib.hid hst
                have Hlk := Lib.hid hlk
                have Hbel := Lib.hid hbel
                have Hzr := Lib.hid hzr
                have k1 : (0 : Int) ≤ (k : Int) := by omega
                have k2 : (k : Int) < m := by omega
                clear hO hq hu hst hX hbel hzr hx hmx hnx hc hxk hW7r h0w h0K
                rw [hlk] at x4
                clear hlk
                go_wp2_with fail
                have hgs : w.heap.size + 1 + 1 < wr.heap.size := HO.out.1.lt
                have hps : w.heap.size < wr.heap.size := by omega
                have hbd : Below wr.heap.size wr wr.drew := Below.drew (Below.refl _ _)
                refine wp_region_noPanic ?_
                refine wp_region_T (fun w' => w'.cell? ⟨w.heap.size + 1 + 1, 4, none⟩ = some (.slice A5 k c5) ∧ w'.cell? ⟨w.heap.size, 4, none⟩ = some (.slice (some ⟨b, off, none⟩) m cp) ∧ w'.cell? ⟨b, off + k * 5, none⟩ = some (.int .u8 x.k) ∧ w'.cell? ⟨b, off + k * 5 + 1, none⟩ = some (.int .i64 x.n) ∧ w'.cell? ⟨b, off + k * 5 + 2, none⟩ = some (.int .i64 x.v) ∧ w'.cell? ⟨b, off + k * 5 + 3, none⟩ = some (.int .u8 x.c) ∧ w'.cell? ⟨b, off + k * 5 + 4, none⟩ = some (.slice Ax mx cx)) 12 (by kernel_rfl) ⟨x4, z4, e0, e1, e2, e3, e4⟩ (fun hHeld => ?_)
                refine wpAnyT_take (i := 0) (v := ?_) rfl (by kernel_rfl) (by kernel_rfl) (by kernel_rfl) (by kernel_rfl) (fun _ _ _ h => h) (Or.inl ⟨by rfl, ?_⟩) (by assumption) ?_
                rotate_left
                · (intro w hSw; (try dsimp only at hSw); first | (go_simp; done) | (go_simp; with_reducible rfl))
                try simp only [Act.put, List.getElem_toArray, List.getElem_cons_zero, List.getElem_cons_succ, List.setIfInBounds_toArray, List.set_cons_zero, List.set_cons_succ]
                refine wpAnyT_take (i := 1) (v := ?_) rfl (by kernel_rfl) (by kernel_rfl) (by kernel_rfl) (by kernel_rfl) (fun _ _ _ h => h) (Or.inl ⟨by rfl, ?_⟩) (by assumption) ?_
                rotate_left
                · (intro w hSw; (try dsimp only at hSw); first | (go_simp; done) | (go_simp; with_reducible rfl))
                try simp only [Act.put, List.getElem_toArray, List.getElem_cons_zero, List.getElem_cons_succ, List.setIfInBounds_toArray, List.set_cons_zero, List.set_cons_succ]
                refine wpAnyT_take (i := 2) (v := ?_) rfl (by kernel_rfl) (by kernel_rfl) (by kernel_rfl) (by kernel_rfl) (fun _ _ _ h => h) (Or.inl ⟨by rfl, ?_⟩) (by assumption) ?_
                rotate_left
                · (intro w hSw; (try dsimp only at hSw); first | (go_simp; done) | (go_simp; with_reducible rfl))
                try simp only [Act.put, List.getElem_toArray, List.getElem_cons_zero, List.getElem_cons_succ, List.setIfInBounds_toArray, List.set_cons_zero, List.set_cons_succ]
                refine wpAnyT_take (i := 3) (v := ?_) rfl (by kernel_rfl) (by kernel_rfl) (by kernel_rfl) (by kernel_rfl) (fun _ _ _ h => h) (Or.inl ⟨by rfl, ?_⟩) (by assumption) ?_
                rotate_left
                · (intro w hSw; (try dsimp only at hSw); first | (go_simp; done) | (go_simp; with_reducible rfl))
                try simp only [Act.put, List.getElem_toArray, List.getElem_cons_zero, List.getElem_cons_succ, List.setIfInBounds_toArray, List.set_cons_zero, List.set_cons_succ]
                refine wpAnyT_take (i := 4) (v := ?_) rfl (by kernel_rfl) (by kernel_rfl) (by kernel_rfl) (by kernel_rfl) (fun _ _ _ h => h) (Or.inl ⟨by rfl, ?_⟩) (by assumption) ?_
                rotate_left
                · (intro w hSw; (try dsimp only at hSw); first | (go_simp; done) | (go_simp; with_reducible rfl))
                try simp only [Act.put, List.getElem_toArray, List.getElem_cons_zero, List.getElem_cons_succ, List.setIfInBounds_toArray, List.set_cons_zero, List.set_cons_succ]
                refine wpAnyT_take (i := 5) (v := ?_) rfl (by kernel_rfl) (by kernel_rfl) (by kernel_rfl) (by kernel_rfl) (fun _ _ _ h => h) (Or.inl ⟨by rfl, ?_⟩) (by assumption) ?_
                rotate_left
                · (intro w hSw; (try dsimp only at hSw); first | (go_simp; done) | (go_simp; with_reducible rfl))
                try simp only [Act.put, List.getElem_toArray, List.getElem_cons_zero, List.getElem_cons_succ, List.setIfInBounds_toArray, List.set_cons_zero, List.set_cons_succ]
                refine wpAnyT_take (i := 6) (v := ?_) rfl (by kernel_rfl) (by kernel_rfl) (by kernel_rfl) (by kernel_rfl) (fun _ _ _ h => h) (Or.inl ⟨by rfl, ?_⟩) (by assumption) ?_
                rotate_left
                · (intro w hSw; (try dsimp only at hSw); first | (go_simp; done) | (go_simp; with_reducible rfl))
                try simp only [Act.put, List.getElem_toArray, List.getElem_cons_zero, List.getElem_cons_succ, List.setIfInBounds_toArray, List.set_cons_zero, List.set_cons_succ]
                refine wpAnyT_take (i := 7) (v := ?_) rfl (by kernel_rfl) (by kernel_rfl) (by kernel_rfl) (by kernel_rfl) (fun _ _ _ h => h) (Or.inl ⟨by rfl, ?_⟩) (by assumption) ?_
                rotate_left
                · (intro w hSw; (try dsimp only at hSw); first | (go_simp; done) | (go_simp; with_reducible rfl))
                try simp only [Act.put, List.getElem_toArray, List.getElem_cons_zero, List.getElem_cons_succ, List.setIfInBounds_toArray, List.set_cons_zero, List.set_cons_succ]
                refine wpAnyT_take (i := 8) (v := ?_) rfl (by kernel_rfl) (by kernel_rfl) (by kernel_rfl) (by kernel_rfl) (fun _ _ _ h => h) (Or.inl ⟨by rfl, ?_⟩) (by assumption) ?_
                rotate_left
                · (intro w hSw; (try dsimp only at hSw); first | (go_simp; done) | (go_simp; with_reducible rfl))
                try simp only [Act.put, List.getElem_toArray, List.getElem_cons_zero, List.getElem_cons_succ, List.setIfInBounds_toArray, List.set_cons_zero, List.set_cons_succ]
                refine wpAnyT_step (i := 9) (by kernel_rfl) rfl (fun K hK => ?_)
                (go_simp; refine (Hq.out _ hbd).mono ?_; rintro e w1 ⟨A7, m7, c7, rfl, h7, hb7⟩; have hb1 : Below wr.heap.size wr w1 := hbd.trans (hb7.mono hbd.size); have Hb1 := Lib.hid hb1; have H7 := Lib.hid h7; have hs1 := hb1.size; clear h7 hb7 hb1)
                refine hK.out _ _ ⟨(Hb1.out.cell (p := ⟨w.heap.size + 1 + 1, 4, none⟩) hgs).trans x4, (Hb1.out.cell (p := ⟨w.heap.size, 4, none⟩) hps).trans z4, (Hb1.out.cell (p := ⟨b, off + k * 5, none⟩) hbr).trans e0, (Hb1.out.cell (p := ⟨b, off + k * 5 + 1, none⟩) hbr).trans e1, (Hb1.out.cell (p := ⟨b, off + k * 5 + 2, none⟩) hbr).trans e2, (Hb1.out.cell (p := ⟨b, off + k * 5 + 3, none⟩) hbr).trans e3, (Hb1.out.cell (p := ⟨b, off + k * 5 + 4, none⟩) hbr).trans e4⟩ ?_
                clear hK K
                try simp only [Act.put, List.getElem_toArray, List.getElem_cons_zero, List.getElem_cons_succ, List.setIfInBounds_toArray, List.set_cons_zero, List.set_cons_succ]
                have y4 := (Hb1.out.cell (p := ⟨w.heap.size + 1 + 1, 4, none⟩) hgs).trans x4
                have t4 := (Hb1.out.cell (p := ⟨w.heap.size, 4, none⟩) hps).trans z4
                have g0 := (Hb1.out.cell (p := ⟨b, off + k * 5, none⟩) hbr).trans e0
                have g1 := (Hb1.out.cell (p := ⟨b, off + k * 5 + 1, none⟩) hbr).trans e1
                have g2 := (Hb1.out.cell (p := ⟨b, off + k * 5 + 2, none⟩) hbr).trans e2
                have g3 := (Hb1.out.cell (p := ⟨b, off + k * 5 + 3, none⟩) hbr).trans e3
                have g4 := (Hb1.out.cell (p := ⟨b, off + k * 5 + 4, none⟩) hbr).trans e4
                have hgs1 : w.heap.size + 1 + 1 < w1.heap.size := by omega
                have hps1 : w.heap.size < w1.heap.size := by omega
                have hbr1 : b < w1.heap.size := by omega
                clear x4 z4 e0 e1 e2 e3 e4
                refine wpAnyT_step (i := 9 + 1) (by kernel_rfl) rfl (fun K hK => ?_)
                go_simp
                refine hK.out _ _ ⟨(World.cell?_alloc_lt _ _ ⟨w.heap.size + 1 + 1, 4, none⟩ hgs1).trans y4, (World.cell?_alloc_lt _ _ ⟨w.heap.size, 4, none⟩ hps1).trans t4, (World.cell?_alloc_lt _ _ ⟨b, off + k * 5, none⟩ hbr1).trans g0, (World.cell?_alloc_lt _ _ ⟨b, off + k * 5 + 1, none⟩ hbr1).trans g1, (World.cell?_alloc_lt _ _ ⟨b, off + k * 5 + 2, none⟩ hbr1).trans g2, (World.cell?_alloc_lt _ _ ⟨b, off + k * 5 + 3, none⟩ hbr1).trans g3, (World.cell?_alloc_lt _ _ ⟨b, off + k * 5 + 4, none⟩ hbr1).trans g4⟩ ?_
                clear hK K
                try simp only [Act.put, List.getElem_toArray, List.getElem_cons_zero, List.getElem_cons_succ, List.setIfInBounds_toArray, List.set_cons_zero, List.set_cons_succ]
                have hs0 := HO.out.2.1.lt
                have hcV : CelsV w1 (fun b => b < w1.heap.size ∧ some b ≠ (Value.slice A5 X.length c5).ownBlock ∧ ¬ (Kb ≤ b ∧ b < w.heap.size + 1 + 1 + 1)) (encT u) [.int .u8 u.k, .int .i64 u.n, .int .i64 u.v, .int .u8 u.c, .slice A7 m7 c7] := tyC (H7.out.mono fun q hq => by
                  rcases hq with hq | hq
                  · refine ⟨by omega, fun e => ?_, by omega⟩
                    have := (hs0 q e.symm).1
                    omega
                  · have hq1 : wr.heap.size ≤ q := hq.1
                    refine ⟨hq.2, fun e => ?_, by omega⟩
                    have := (hs0 q e.symm).2
                    omega)
                have hO1 := HO.out.2.1.beyond Hb1.out
                have hlk := Hlk.out
                rw [hlk] at hcV hO1
                have HcV := Lib.hid hcV
                have HO1 := Lib.hid hO1
                have HB1 := Lib.hid (Hbel.out.trans (Hb1.out.mono (by omega)))
                clear hcV hO1 hs0 H7
                refine wpAnyT_step (i := 9 + 2) (by kernel_rfl) rfl (fun K hK => ?_)
                (refine step_append_cel W7 w1 (by rfl) (.tmp 63) (.tmp 72) 25 (by rfl) (w.heap.size + 1 + 1 + 1) 27 i0 _ 5 56 Tryd.underlying25 hi0 hz0 hz1 hz2 rfl (by omega) (fun b => Kb ≤ b ∧ b < w.heap.size + 1 + 1 + 1) (.slice A5 k c5) k _ (by rfl) [.int .u8 u.k, .int .i64 u.n, .int .i64 u.v, .int .u8 u.c, .slice A7 m7 c7] (encT u) rfl (by intro u hu; simp at hu; rcases hu with rfl | rfl | rfl | rfl | rfl <;> rfl) (by rfl) HO1.out HcV.out (by unfold maxLen; have := mayT_len HM.out; omega) (by have := mayT_len HM.out; omega) HB1.out (by omega) (by omega) ?_; intro A8 c8 w8 ho8 hbel8 hg8 hsz8 _; have hgb : some (w.heap.size + 1 + 1) ≠ (Value.slice A5 k c5).ownBlock := (fun e => by have := (HO1.out.lt _ e.symm).1; omega); have hpb : some w.heap.size ≠ (Value.slice A5 k c5).ownBlock := (fun e => by have := (HO1.out.lt _ e.symm).1; omega); have hbb : some b ≠ (Value.slice A5 k c5).ownBlock := (fun e => by have := (HO1.out.lt _ e.symm).1; omega); have hcg : ∀ j, w8.cell? ⟨w.heap.size + 1 + 1, j, none⟩ = w1.cell? ⟨w.heap.size + 1 + 1, j, none⟩ := (fun j => World.cell?_of_block (hg8.block (w.heap.size + 1 + 1) hgs1 hgb)); have hcp : ∀ j, w8.cell? ⟨w.heap.size, j, none⟩ = w1.cell? ⟨w.heap.size, j, none⟩ := (fun j => World.cell?_of_block (hg8.block w.heap.size hps1 hpb)); have hcb : ∀ j, w8.cell? ⟨b, j, none⟩ = w1.cell? ⟨b, j, none⟩ := (fun j => World.cell?_of_block (hg8.block b hbr1 hbb)))
                refine hK.out _ _ ⟨(hcg _).trans y4, (hcp _).trans t4, (hcb _).trans g0, (hcb _).trans g1, (hcb _).trans g2, (hcb _).trans g3, (hcb _).trans g4⟩ ?_
                clear hK K
                try simp only [Act.put, List.getElem_toArray, List.getElem_cons_zero, List.getElem_cons_succ, List.setIfInBounds_toArray, List.set_cons_zero, List.set_cons_succ]
                have q4 := (hcg 4).trans y4
                have qf : w8.frozen? ⟨w.heap.size + 1 + 1, 4, none⟩ = false := ((HO.out.1.below Hb1.out HO.out.1.lt).grown hg8 hgb).frozen 4
                have Hpush : Hid (OutAt (w8.setCell ⟨w.heap.size + 1 + 1, 4, none⟩ (.slice A8 (k + 1) c8)) (w.heap.size + 1 + 1) (w.heap.size + 1 + 1 + 1) (fun b => Kb ≤ b ∧ b < w.heap.size + 1 + 1 + 1) t.k t.n (q.1) (q.2) ((t.l.take (k + 1)).map U) A8 c8) := by
                  have h := OutAt.push (HO.out.below Hb1.out) (A6 := A8) (c6 := c8) (w' := w8) u
                  rw [Hlk.out] at h
                  rw [Hst.out]
                  exact Lib.hid (h ho8 hg8)
                have Hb8 := Lib.hid (hbel8.setCell (p := ⟨w.heap.size + 1 + 1, 4, none⟩) (Nat.le_refl _) (.slice A8 (k + 1) c8))
                clear hcg hcp hcb hgb hpb hbb ho8 hbel8 hg8 y4 t4 g0 g1 g2 g3 g4
                refine wpAnyT_seq 12 (by omega) (by rfl) (by kernel_rfl) ?_
                simp only [List.drop_succ_cons, List.drop_zero]
                go_wp2_with fail
                refine NoPanic.normal ?_
                clear q4 qf
                go_wp2_with fail
                go_roundg (m - (k + 1))
                case measure => omega
                case rel => exact ⟨k + 1, A8, c8, by omega, rfl, by go_num, Hpush.out, Hb8.out⟩
              · have d0 : decide (k < m) = false := by simpa using hkm
                have hall : t.l.take k = t.l := List.take_of_length_le (by omega)
                rw [hall] at hO
                have hT := OutAt.done (s := w.heap.size + 1 + 1 + 1) hO (Nat.le_refl _) (by omega)
                have hlm : (t.l.map U).length = m := by rw [List.length_map]; exact hlen
                have hk5 := hO.1
                rw [hlm] at hk5 hT
                have x0 := hk5.cell 0
                have x1 := hk5.cell 1
                have x2 := hk5.cell 2
                have x3 := hk5.cell 3
                have x4 := hk5.cell 4
                have hyr := Hy7.out.below hbel (by omega)
                have s0 := hyr.frozen 0
                have s1 := hyr.frozen 1
                have s2 := hyr.frozen 2
                have s3 := hyr.frozen 3
                have s4 := hyr.frozen 4
                have r0 := hyr.cell 0
                have r1 := hyr.cell 1
                have r2 := hyr.cell 2
                have r3 := hyr.cell 3
                have r4 := hyr.cell 4
                have hg1 : w.heap.size ≤ w.heap.size + 1 := by omega
                have Hyr := Lib.hid hyr
                have HT5 := Lib.hid hT
                have HbF := Lib.hid hW7r
                clear hO hk5 hT hyr hall hlm hbel hzr hW7r
                go_wp2_with fail
                have hyr := Hyr.out
                have hW7r := HbF.out
                have hs9 := ((((hyr.set_ 0 (.int .u8 (t.k))).set_ 1 (.int .i64 (t.n))).set_ 2 (.int .i64 (q.1))).set_ 3 (.int .u8 (q.2))).set_ 4 (.slice A5 m c5)
                have hb9 := ((((hW7r.setCell (p := ⟨w.heap.size + 1, 0, none⟩) hg1 (.int .u8 (t.k))).setCell (p := ⟨w.heap.size + 1, 1, none⟩) hg1 (.int .i64 (t.n))).setCell (p := ⟨w.heap.size + 1, 2, none⟩) hg1 (.int .i64 (q.1))).setCell (p := ⟨w.heap.size + 1, 3, none⟩) hg1 (.int .u8 (q.2))).setCell (p := ⟨w.heap.size + 1, 4, none⟩) hg1 (.slice A5 m c5)
                generalize hW9 : ((((((wr).setCell ⟨w.heap.size + 1, 0, none⟩ (.int .u8 (t.k))).setCell ⟨w.heap.size + 1, 1, none⟩ (.int .i64 (t.n))).setCell ⟨w.heap.size + 1, 2, none⟩ (.int .i64 (q.1))).setCell ⟨w.heap.size + 1, 3, none⟩ (.int .u8 (q.2))).setCell ⟨w.heap.size + 1, 4, none⟩ (.slice A5 m c5)) = W9 at hs9 hb9 ⊢
                replace hs9 : Blk W9 (w.heap.size + 1) 27 #[.int .u8 (t.k), .int .i64 (t.n), .int .i64 (q.1), .int .u8 (q.2), .slice A5 m c5] := hs9
                have d0' : W9.cell? ⟨w.heap.size + 1, 0, none⟩ = some (.int .u8 (t.k)) := hs9.cell 0
                have d1' : W9.cell? ⟨w.heap.size + 1, 1, none⟩ = some (.int .i64 (t.n)) := hs9.cell 1
                have d2' : W9.cell? ⟨w.heap.size + 1, 2, none⟩ = some (.int .i64 (q.1)) := hs9.cell 2
                have d3' : W9.cell? ⟨w.heap.size + 1, 3, none⟩ = some (.int .u8 (q.2)) := hs9.cell 3
                have d4' : W9.cell? ⟨w.heap.size + 1, 4, none⟩ = some (.slice A5 m c5) := hs9.cell 4
                have hT9 : TysS W9 (fun b => b < Kb ∨ (w.heap.size ≤ b ∧ b < W9.heap.size)) A5 m c5 (t.l.map U) := by
                  rw [← hW9]
                  refine HT5.out.keep (fun b hb => ?_) fun p hp => ?_
                  · rcases hb with hb | hb
                    · exact .inl hb
                    · exact .inr ⟨by omega, by simpa using hb.2⟩
                  · have c1 : ∀ (W' : World) (o : Nat) (v : Value), (W'.setCell ⟨w.heap.size + 1, o, none⟩ v).cell? p = W'.cell? p := fun W' o v => World.cell?_setCell_other _ _ _ _ (fun e => by
                      have e1 : w.heap.size + 1 = p.block := by rw [← e]
                      rcases hp with hp | hp <;> omega)
                    rw [c1, c1, c1, c1, c1]
                exact bodyPost_ret (v := .agg #[.int .u8 t.k, .int .i64 t.n, .int .i64 (q.1), .int .u8 (q.2), .slice A5 m c5]) (by simp [results, Tryd.results35, go_sem, d0', d1', d2', d3', d4']) rfl (by rw [HR.out]; exact ⟨A5, m, c5, rfl, hT9, hb9⟩)
          · have dv : decide (t.v < n2) = false := by simpa using hv
            have hpm : putM ms t.v = (t.v, 0) := by unfold putM; rw [if_neg (by omega)]
            have HR : Hid (turnT (putV types) (putM ms) t = .mk t.k t.n t.v t.c (t.l.map U)) := Lib.hid (by rw [turnT_eq, if_neg h1, if_pos ⟨h7, hc⟩, if_pos ⟨h7, hc⟩, hpm, HU.out, hc])
            clear hpm h1 h7 hc hvn hvar
            have HOut : Hid (OutAt (W.alloc (Obj.cells #[.int .u8 t.k, .int .i64 t.n, .int .i64 (t.v), .int .u8 (t.c), .slice none 0 0] 27)) (w.heap.size + 1 + 1) (w.heap.size + 1 + 1 + 1) (fun b => Kb ≤ b ∧ b < w.heap.size + 1 + 1 + 1) t.k t.n (t.v) (t.c) [] none 0) := Lib.hid ⟨by rw [← hsz]; exact blk_new W _ _, OwnC.nil, ⟨by omega, by omega⟩, by omega⟩
            have Hbx := Lib.hid (below_box (w := W) (Obj.cells #[.int .u8 t.k, .int .i64 t.n, .int .i64 (t.v), .int .u8 (t.c), .slice none 0 0] 27))
            go_enter Tryd.func35, Tryd.ntmps35
            go_wp2_with fail
            rw [HW.out]
            obtain ⟨W7, hW7⟩ : ∃ W7, W.alloc (Obj.cells #[.int .u8 t.k, .int .i64 t.n, .int .i64 (t.v), .int .u8 (t.c), .slice none 0 0] 27) = W7 := ⟨_, rfl⟩
            rw [hW7] at HOut Hbx ⊢
            have hout := HOut.out
            have Hb7 := Lib.hid (Hb.out.trans (Hbx.out.mono Hb.out.size))
            have Hz7 := Lib.hid (Hz.out.below Hbx.out Hz.out.lt)
            have Hy7 := Lib.hid (Hy.out.below Hbx.out Hy.out.lt)
            clear hW7 HOut z0 z1 z2 z3 z4
            have HoutI : Hid (OutAt W7 (w.heap.size + 1 + 1) (w.heap.size + 1 + 1 + 1) (fun b => Kb ≤ b ∧ b < w.heap.size + 1 + 1 + 1) t.k t.n (t.v) (t.c) [] none 0) := Lib.hid hout
            clear hout
            go_loopg [8] m (fun gh i wr => ∃ (k : Nat) (A5 : Option Addr) (c5 : Nat), k ≤ m ∧ gh = m - k ∧ i = .int .i64 k ∧ OutAt wr (w.heap.size + 1 + 1) (w.heap.size + 1 + 1 + 1) (fun b => Kb ≤ b ∧ b < w.heap.size + 1 + 1 + 1) t.k t.n (t.v) (t.c) ((t.l.take k).map U) A5 c5 ∧ Below (w.heap.size + 1 + 1) W7 wr)
            case atStart => exact ⟨0, none, 0, Nat.zero_le _, rfl, rfl, HoutI.out, Below.refl _ _⟩
            case round =>
              obtain ⟨k, A5, c5, hk, rfl, rfl, hO, hbel⟩ := hrel
              have hW7r := Hb7.out.trans (hbel.mono hle2)
              have hzr := Hz7.out.below hbel hlt0
              have z4 := hzr.cell 4
              by_cases hkm : k < m
              · have d0 : decide (k < m) = true := by simpa using hkm
                have hk' : k < t.l.length := by omega
                have hlk : ((t.l.take k).map U).length = k := by rw [List.length_map, List.length_take]; omega
                obtain ⟨b, off, rfl, hb, hc⟩ := (HL.out.below hW7r).at_ (by omega)
                obtain ⟨e0, e1, e2, e3, Ax, mx, cx, e4, hx⟩ := tyAt_iff.1 (hc k hk')
                have hmx := mayT_kid HM.out hk'
                have hnx := HN.out k hk'
                have hst : (t.l.take (k + 1)).map U = (t.l.take k).map U ++ [U t.l[k]] := by rw [List.take_succ_eq_append_getElem hk', List.map_append]; rfl
                obtain ⟨x, hxk⟩ : ∃ x, t.l[k] = x := ⟨_, rfl⟩
                rw [hxk] at e0 e1 e2 e3 hx hmx hnx hst
                have hsr : w.heap.size + 1 + 1 + 1 ≤ wr.heap.size := by have := hO.1.lt; omega
                have h0w : Below w.heap.size w wr := hW7r
                have h0K : Below Kb w wr := hW7r.mono hK
                have hq := fun (W' : World) (h : Below wr.heap.size wr W') => Ih.out x hnx hmx Ax mx cx W' (((hx.more (by omega)).fresh h)) (HT.out.below (h0K.trans (h.mono (by omega)))) (by have := h.size; omega) ((HMs.out.fresh h0w).fresh h)
                obtain ⟨u, hu⟩ : ∃ u, U x = u := ⟨_, rfl⟩
                rw [hu] at hst
                simp only [hu] at hq
                obtain ⟨X, hX⟩ : ∃ X, (t.l.take k).map U = X := ⟨_, rfl⟩
                rw [hX] at hO hlk hst
                have x4 := hO.1.cell 4
                have hbr : b < wr.heap.size := by omega
                have HO := Lib.hid hO
                have Hq := Lib.hid hq
                have Hu := Lib.hid hu
                have Hst := Lib.hid hst
                have Hlk := Lib.hid hlk
                have Hbel := Lib.hid hbel
                have Hzr := Lib.hid hzr
                have k1 : (0 : Int) ≤ (k : Int) := by omega
                have k2 : (k : Int) < m := by omega
                clear hO hq hu hst hX hbel hzr hx hmx hnx hc hxk hW7r h0w h0K
                rw [hlk] at x4
                clear hlk
                go_wp2_with fail
                have hgs : w.heap.size + 1 + 1 < wr.heap.size := HO.out.1.lt
                have hps : w.heap.size < wr.heap.size := by omega
                have hbd : Below wr.heap.size wr wr.drew := Below.drew (Below.refl _ _)
                refine wp_region_noPanic ?_
                refine wp_region_T (fun w' => w'.cell? ⟨w.heap.size + 1 + 1, 4, none⟩ = some (.slice A5 k c5) ∧ w'.cell? ⟨w.heap.size, 4, none⟩ = some (.slice (some ⟨b, off, none⟩) m cp) ∧ w'.cell? ⟨b, off + k * 5, none⟩ = some (.int .u8 x.k) ∧ w'.cell? ⟨b, off + k * 5 + 1, none⟩ = some (.int .i64 x.n) ∧ w'.cell? ⟨b, off + k * 5 + 2, none⟩ = some (.int .i64 x.v) ∧ w'.cell? ⟨b, off + k * 5 + 3, none⟩ = some (.int .u8 x.c) ∧ w'.cell? ⟨b, off + k * 5 + 4, none⟩ = some (.slice Ax mx cx)) 12 (by kernel_rfl) ⟨x4, z4, e0, e1, e2, e3, e4⟩ (fun hHeld => ?_)
                refine wpAnyT_take (i := 0) (v := ?_) rfl (by kernel_rfl) (by kernel_rfl) (by kernel_rfl) (by kernel_rfl) (fun _ _ _ h => h) (Or.inl ⟨by rfl, ?_⟩) (by assumption) ?_
                rotate_left
                · (intro w hSw; (try dsimp only at hSw); first | (go_simp; done) | (go_simp; with_reducible rfl))
                try simp only [Act.put, List.getElem_toArray, List.getElem_cons_zero, List.getElem_cons_succ, List.setIfInBounds_toArray, List.set_cons_zero, List.set_cons_succ]
                refine wpAnyT_take (i := 1) (v := ?_) rfl (by kernel_rfl) (by kernel_rfl) (by kernel_rfl) (by kernel_rfl) (fun _ _ _ h => h) (Or.inl ⟨by rfl, ?_⟩) (by assumption) ?_
                rotate_left
                · (intro w hSw; (try dsimp only at hSw); first | (go_simp; done) | (go_simp; with_reducible rfl))
                try simp only [Act.put, List.getElem_toArray, List.getElem_cons_zero, List.getElem_cons_succ, List.setIfInBounds_toArray, List.set_cons_zero, List.set_cons_succ]
                refine wpAnyT_take (i := 2) (v := ?_) rfl (by kernel_rfl) (by kernel_rfl) (by kernel_rfl) (by kernel_rfl) (fun _ _ _ h => h) (Or.inl ⟨by rfl, ?_⟩) (by assumption) ?_
                rotate_left
                · (intro w hSw; (try dsimp only at hSw); first | (go_simp; done) | (go_simp; with_reducible rfl))
                try simp only [Act.put, List.getElem_toArray, List.getElem_cons_zero, List.getElem_cons_succ, List.setIfInBounds_toArray, List.set_cons_zero, List.set_cons_succ]
                refine wpAnyT_take (i := 3) (v := ?_) rfl (by kernel_rfl) (by kernel_rfl) (by kernel_rfl) (by kernel_rfl) (fun _ _ _ h => h) (Or.inl ⟨by rfl, ?_⟩) (by assumption) ?_
                rotate_left
                · (intro w hSw; (try dsimp only at hSw); first | (go_simp; done) | (go_simp; with_reducible rfl))
                try simp only [Act.put, List.getElem_toArray, List.getElem_cons_zero, List.getElem_cons_succ, List.setIfInBounds_toArray, List.set_cons_zero, List.set_cons_succ]
                refine wpAnyT_take (i := 4) (v := ?_) rfl (by kernel_rfl) (by kernel_rfl) (by kernel_rfl) (by kernel_rfl) (fun _ _ _ h => h) (Or.inl ⟨by rfl, ?_⟩) (by assumption) ?_
                rotate_left
                · (intro w hSw; (try dsimp only at hSw); first | (go_simp; done) | (go_simp; with_reducible rfl))
                try simp only [Act.put, List.getElem_toArray, List.getElem_cons_zero, List.getElem_cons_succ, List.setIfInBounds_toArray, List.set_cons_zero, List.set_cons_succ]
                refine wpAnyT_take (i := 5) (v := ?_) rfl (by kernel_rfl) (by kernel_rfl) (by kernel_rfl) (by kernel_rfl) (fun _ _ _ h => h) (Or.inl ⟨by rfl, ?_⟩) (by assumption) ?_
                rotate_left
                · (intro w hSw; (try dsimp only at hSw); first | (go_simp; done) | (go_simp; with_reducible rfl))
                try simp only [Act.put, List.getElem_toArray, List.getElem_cons_zero, List.getElem_cons_succ, List.setIfInBounds_toArray, List.set_cons_zero, List.set_cons_succ]
                refine wpAnyT_take (i := 6) (v := ?_) rfl (by kernel_rfl) (by kernel_rfl) (by kernel_rfl) (by kernel_rfl) (fun _ _ _ h => h) (Or.inl ⟨by rfl, ?_⟩) (by assumption) ?_
                rotate_left
                · (intro w hSw; (try dsimp only at hSw); first | (go_simp; done) | (go_simp; with_reducible rfl))
                try simp only [Act.put, List.getElem_toArray, List.getElem_cons_zero, List.getElem_cons_succ, List.setIfInBounds_toArray, List.set_cons_zero, List.set_cons_succ]
                refine wpAnyT_take (i := 7) (v := ?_) rfl (by kernel_rfl) (by kernel_rfl) (by kernel_rfl) (by kernel_rfl) (fun _ _ _ h => h) (Or.inl ⟨by rfl, ?_⟩) (by assumption) ?_
                rotate_left
                · (intro w hSw; (try dsimp only at hSw); first | (go_simp; done) | (go_simp; with_reducible rfl))
                try simp only [Act.put, List.getElem_toArray, List.getElem_cons_zero, List.getElem_cons_succ, List.setIfInBounds_toArray, List.set_cons_zero, List.set_cons_succ]
                refine wpAnyT_take (i := 8) (v := ?_) rfl (by kernel_rfl) (by kernel_rfl) (by kernel_rfl) (by kernel_rfl) (fun _ _ _ h => h) (Or.inl ⟨by rfl, ?_⟩) (by assumption) ?_
                rotate_left
                · (intro w hSw; (try dsimp only at hSw); first | (go_simp; done) | (go_simp; with_reducible rfl))
                try simp only [Act.put, List.getElem_toArray, List.getElem_cons_zero, List.getElem_cons_succ, List.setIfInBounds_toArray, List.set_cons_zero, List.set_cons_succ]
                refine wpAnyT_step (i := 9) (by kernel_rfl) rfl (fun K hK => ?_)
                (go_simp; refine (Hq.out _ hbd).mono ?_; rintro e w1 ⟨A7, m7, c7, rfl, h7, hb7⟩; have hb1 : Below wr.heap.size wr w1 := hbd.trans (hb7.mono hbd.size); have Hb1 := Lib.hid hb1; have H7 := Lib.hid h7; have hs1 := hb1.size; clear h7 hb7 hb1)
                refine hK.out _ _ ⟨(Hb1.out.cell (p := ⟨w.heap.size + 1 + 1, 4, none⟩) hgs).trans x4, (Hb1.out.cell (p := ⟨w.heap.size, 4, none⟩) hps).trans z4, (Hb1.out.cell (p := ⟨b, off + k * 5, none⟩) hbr).trans e0, (Hb1.out.cell (p := ⟨b, off + k * 5 + 1, none⟩) hbr).trans e1, (Hb1.out.cell (p := ⟨b, off + k * 5 + 2, none⟩) hbr).trans e2, (Hb1.out.cell (p := ⟨b, off + k * 5 + 3, none⟩) hbr).trans e3, (Hb1.out.cell (p := ⟨b, off + k * 5 + 4, none⟩) hbr).trans e4⟩ ?_
                clear hK K
                try simp only [Act.put, List.getElem_toArray, List.getElem_cons_zero, List.getElem_cons_succ, List.setIfInBounds_toArray, List.set_cons_zero, List.set_cons_succ]
                have y4 := (Hb1.out.cell (p := ⟨w.heap.size + 1 + 1, 4, none⟩) hgs).trans x4
                have t4 := (Hb1.out.cell (p := ⟨w.heap.size, 4, none⟩) hps).trans z4
                have g0 := (Hb1.out.cell (p := ⟨b, off + k * 5, none⟩) hbr).trans e0
                have g1 := (Hb1.out.cell (p := ⟨b, off + k * 5 + 1, none⟩) hbr).trans e1
                have g2 := (Hb1.out.cell (p := ⟨b, off + k * 5 + 2, none⟩) hbr).trans e2
                have g3 := (Hb1.out.cell (p := ⟨b, off + k * 5 + 3, none⟩) hbr).trans e3
                have g4 := (Hb1.out.cell (p := ⟨b, off + k * 5 + 4, none⟩) hbr).trans e4
                have hgs1 : w.heap.size + 1 + 1 < w1.heap.size := by omega
                have hps1 : w.heap.size < w1.heap.size := by omega
                have hbr1 : b < w1.heap.size := by omega
                clear x4 z4 e0 e1 e2 e3 e4
                refine wpAnyT_step (i := 9 + 1) (by kernel_rfl) rfl (fun K hK => ?_)
                go_simp
                refine hK.out _ _ ⟨(World.cell?_alloc_lt _ _ ⟨w.heap.size + 1 + 1, 4, none⟩ hgs1).trans y4, (World.cell?_alloc_lt _ _ ⟨w.heap.size, 4, none⟩ hps1).trans t4, (World.cell?_alloc_lt _ _ ⟨b, off + k * 5, none⟩ hbr1).trans g0, (World.cell?_alloc_lt _ _ ⟨b, off + k * 5 + 1, none⟩ hbr1).trans g1, (World.cell?_alloc_lt _ _ ⟨b, off + k * 5 + 2, none⟩ hbr1).trans g2, (World.cell?_alloc_lt _ _ ⟨b, off + k * 5 + 3, none⟩ hbr1).trans g3, (World.cell?_alloc_lt _ _ ⟨b, off + k * 5 + 4, none⟩ hbr1).trans g4⟩ ?_
                clear hK K
                try simp only [Act.put, List.getElem_toArray, List.getElem_cons_zero, List.getElem_cons_succ, List.setIfInBounds_toArray, List.set_cons_zero, List.set_cons_succ]
                have hs0 := HO.out.2.1.lt
                have hcV : CelsV w1 (fun b => b < w1.heap.size ∧ some b ≠ (Value.slice A5 X.length c5).ownBlock ∧ ¬ (Kb ≤ b ∧ b < w.heap.size + 1 + 1 + 1)) (encT u) [.int .u8 u.k, .int .i64 u.n, .int .i64 u.v, .int .u8 u.c, .slice A7 m7 c7] := tyC (H7.out.mono fun q hq => by
                  rcases hq with hq | hq
                  · refine ⟨by omega, fun e => ?_, by omega⟩
                    have := (hs0 q e.symm).1
                    omega
                  · have hq1 : wr.heap.size ≤ q := hq.1
                    refine ⟨hq.2, fun e => ?_, by omega⟩
                    have := (hs0 q e.symm).2
                    omega)
                have hO1 := HO.out.2.1.beyond Hb1.out
                have hlk := Hlk.out
                rw [hlk] at hcV hO1
                have HcV := Lib.hid hcV
                have HO1 := Lib.hid hO1
                have HB1 := Lib.hid (Hbel.out.trans (Hb1.out.mono (by omega)))
                clear hcV hO1 hs0 H7
                refine wpAnyT_step (i := 9 + 2) (by kernel_rfl) rfl (fun K hK => ?_)
                (refine step_append_cel W7 w1 (by rfl) (.tmp 63) (.tmp 72) 25 (by rfl) (w.heap.size + 1 + 1 + 1) 27 i0 _ 5 56 Tryd.underlying25 hi0 hz0 hz1 hz2 rfl (by omega) (fun b => Kb ≤ b ∧ b < w.heap.size + 1 + 1 + 1) (.slice A5 k c5) k _ (by rfl) [.int .u8 u.k, .int .i64 u.n, .int .i64 u.v, .int .u8 u.c, .slice A7 m7 c7] (encT u) rfl (by intro u hu; simp at hu; rcases hu with rfl | rfl | rfl | rfl | rfl <;> rfl) (by rfl) HO1.out HcV.out (by unfold maxLen; have := mayT_len HM.out; omega) (by have := mayT_len HM.out; omega) HB1.out (by omega) (by omega) ?_; intro A8 c8 w8 ho8 hbel8 hg8 hsz8 _; have hgb : some (w.heap.size + 1 + 1) ≠ (Value.slice A5 k c5).ownBlock := (fun e => by have := (HO1.out.lt _ e.symm).1; omega); have hpb : some w.heap.size ≠ (Value.slice A5 k c5).ownBlock := (fun e => by have := (HO1.out.lt _ e.symm).1; omega); have hbb : some b ≠ (Value.slice A5 k c5).ownBlock := (fun e => by have := (HO1.out.lt _ e.symm).1; omega); have hcg : ∀ j, w8.cell? ⟨w.heap.size + 1 + 1, j, none⟩ = w1.cell? ⟨w.heap.size + 1 + 1, j, none⟩ := (fun j => World.cell?_of_block (hg8.block (w.heap.size + 1 + 1) hgs1 hgb)); have hcp : ∀ j, w8.cell? ⟨w.heap.size, j, none⟩ = w1.cell? ⟨w.heap.size, j, none⟩ := (fun j => World.cell?_of_block (hg8.block w.heap.size hps1 hpb)); have hcb : ∀ j, w8.cell? ⟨b, j, none⟩ = w1.cell? ⟨b, j, none⟩ := (fun j => World.cell?_of_block (hg8.block b hbr1 hbb)))
                refine hK.out _ _ ⟨(hcg _).trans y4, (hcp _).trans t4, (hcb _).trans g0, (hcb _).trans g1, (hcb _).trans g2, (hcb _).trans g3, (hcb _).trans g4⟩ ?_
                clear hK K
                try simp only [Act.put, List.getElem_toArray, List.getElem_cons_zero, List.getElem_cons_succ, List.setIfInBounds_toArray, List.set_cons_zero, List.set_cons_succ]
                have q4 := (hcg 4).trans y4
                have qf : w8.frozen? ⟨w.heap.size + 1 + 1, 4, none⟩ = false := ((HO.out.1.below Hb1.out HO.out.1.lt).grown hg8 hgb).frozen 4
                have Hpush : Hid (OutAt (w8.setCell ⟨w.heap.size + 1 + 1, 4, none⟩ (.slice A8 (k + 1) c8)) (w.heap.size + 1 + 1) (w.heap.size + 1 + 1 + 1) (fun b => Kb ≤ b ∧ b < w.heap.size + 1 + 1 + 1) t.k t.n (t.v) (t.c) ((t.l.take (k + 1)).map U) A8 c8) := by
                  have h := OutAt.push (HO.out.below Hb1.out) (A6 := A8) (c6 := c8) (w' := w8) u
                  rw [Hlk.out] at h
                  rw [Hst.out]
                  exact Lib.hid (h ho8 hg8)
                have Hb8 := Lib.hid (hbel8.setCell (p := ⟨w.heap.size + 1 + 1, 4, none⟩) (Nat.le_refl _) (.slice A8 (k + 1) c8))
                clear hcg hcp hcb hgb hpb hbb ho8 hbel8 hg8 y4 t4 g0 g1 g2 g3 g4
                refine wpAnyT_seq 12 (by omega) (by rfl) (by kernel_rfl) ?_
                simp only [List.drop_succ_cons, List.drop_zero]
                go_wp2_with fail
                refine NoPanic.normal ?_
                clear q4 qf
                go_wp2_with fail
                go_roundg (m - (k + 1))
                case measure => omega
                case rel => exact ⟨k + 1, A8, c8, by omega, rfl, by go_num, Hpush.out, Hb8.out⟩
              · have d0 : decide (k < m) = false := by simpa using hkm
                have hall : t.l.take k = t.l := List.take_of_length_le (by omega)
                rw [hall] at hO
                have hT := OutAt.done (s := w.heap.size + 1 + 1 + 1) hO (Nat.le_refl _) (by omega)
                have hlm : (t.l.map U).length = m := by rw [List.length_map]; exact hlen
                have hk5 := hO.1
                rw [hlm] at hk5 hT
                have x0 := hk5.cell 0
                have x1 := hk5.cell 1
                have x2 := hk5.cell 2
                have x3 := hk5.cell 3
                have x4 := hk5.cell 4
                have hyr := Hy7.out.below hbel (by omega)
                have s0 := hyr.frozen 0
                have s1 := hyr.frozen 1
                have s2 := hyr.frozen 2
                have s3 := hyr.frozen 3
                have s4 := hyr.frozen 4
                have r0 := hyr.cell 0
                have r1 := hyr.cell 1
                have r2 := hyr.cell 2
                have r3 := hyr.cell 3
                have r4 := hyr.cell 4
                have hg1 : w.heap.size ≤ w.heap.size + 1 := by omega
                have Hyr := Lib.hid hyr
                have HT5 := Lib.hid hT
                have HbF := Lib.hid hW7r
                clear hO hk5 hT hyr hall hlm hbel hzr hW7r
                go_wp2_with fail
                have hyr := Hyr.out
                have hW7r := HbF.out
                have hs9 := ((((hyr.set_ 0 (.int .u8 (t.k))).set_ 1 (.int .i64 (t.n))).set_ 2 (.int .i64 (t.v))).set_ 3 (.int .u8 (t.c))).set_ 4 (.slice A5 m c5)
                have hb9 := ((((hW7r.setCell (p := ⟨w.heap.size + 1, 0, none⟩) hg1 (.int .u8 (t.k))).setCell (p := ⟨w.heap.size + 1, 1, none⟩) hg1 (.int .i64 (t.n))).setCell (p := ⟨w.heap.size + 1, 2, none⟩) hg1 (.int .i64 (t.v))).setCell (p := ⟨w.heap.size + 1, 3, none⟩) hg1 (.int .u8 (t.c))).setCell (p := ⟨w.heap.size + 1, 4, none⟩) hg1 (.slice A5 m c5)
                generalize hW9 : ((((((wr).setCell ⟨w.heap.size + 1, 0, none⟩ (.int .u8 (t.k))).setCell ⟨w.heap.size + 1, 1, none⟩ (.int .i64 (t.n))).setCell ⟨w.heap.size + 1, 2, none⟩ (.int .i64 (t.v))).setCell ⟨w.heap.size + 1, 3, none⟩ (.int .u8 (t.c))).setCell ⟨w.heap.size + 1, 4, none⟩ (.slice A5 m c5)) = W9 at hs9 hb9 ⊢
                replace hs9 : Blk W9 (w.heap.size + 1) 27 #[.int .u8 (t.k), .int .i64 (t.n), .int .i64 (t.v), .int .u8 (t.c), .slice A5 m c5] := hs9
                have d0' : W9.cell? ⟨w.heap.size + 1, 0, none⟩ = some (.int .u8 (t.k)) := hs9.cell 0
                have d1' : W9.cell? ⟨w.heap.size + 1, 1, none⟩ = some (.int .i64 (t.n)) := hs9.cell 1
                have d2' : W9.cell? ⟨w.heap.size + 1, 2, none⟩ = some (.int .i64 (t.v)) := hs9.cell 2
                have d3' : W9.cell? ⟨w.heap.size + 1, 3, none⟩ = some (.int .u8 (t.c)) := hs9.cell 3
                have d4' : W9.cell? ⟨w.heap.size + 1, 4, none⟩ = some (.slice A5 m c5) := hs9.cell 4
                have hT9 : TysS W9 (fun b => b < Kb ∨ (w.heap.size ≤ b ∧ b < W9.heap.size)) A5 m c5 (t.l.map U) := by
                  rw [← hW9]
                  refine HT5.out.keep (fun b hb => ?_) fun p hp => ?_
                  · rcases hb with hb | hb
                    · exact .inl hb
                    · exact .inr ⟨by omega, by simpa using hb.2⟩
                  · have c1 : ∀ (W' : World) (o : Nat) (v : Value), (W'.setCell ⟨w.heap.size + 1, o, none⟩ v).cell? p = W'.cell? p := fun W' o v => World.cell?_setCell_other _ _ _ _ (fun e => by
                      have e1 : w.heap.size + 1 = p.block := by rw [← e]
                      rcases hp with hp | hp <;> omega)
                    rw [c1, c1, c1, c1, c1]
                exact bodyPost_ret (v := .agg #[.int .u8 t.k, .int .i64 t.n, .int .i64 (t.v), .int .u8 (t.c), .slice A5 m c5]) (by simp [results, Tryd.results35, go_sem, d0', d1', d2', d3', d4']) rfl (by rw [HR.out]; exact ⟨A5, m, c5, rfl, hT9, hb9⟩)
        · have dc : (t.c == 0) = false := by simp [hc]
          have HR : Hid (turnT (putV types) (putM ms) t = .mk t.k t.n t.v t.c (t.l.map U)) := Lib.hid (by rw [turnT_eq, if_neg h1, if_neg (fun h => hc h.2), if_neg (fun h => hc h.2), HU.out])
          clear h1 h7 hc hvn hvar
          have HOut : Hid (OutAt (W.alloc (Obj.cells #[.int .u8 t.k, .int .i64 t.n, .int .i64 (t.v), .int .u8 (t.c), .slice none 0 0] 27)) (w.heap.size + 1 + 1) (w.heap.size + 1 + 1 + 1) (fun b => Kb ≤ b ∧ b < w.heap.size + 1 + 1 + 1) t.k t.n (t.v) (t.c) [] none 0) := Lib.hid ⟨by rw [← hsz]; exact blk_new W _ _, OwnC.nil, ⟨by omega, by omega⟩, by omega⟩
          have Hbx := Lib.hid (below_box (w := W) (Obj.cells #[.int .u8 t.k, .int .i64 t.n, .int .i64 (t.v), .int .u8 (t.c), .slice none 0 0] 27))
          go_enter Tryd.func35, Tryd.ntmps35
          go_wp2_with fail
          rw [HW.out]
          obtain ⟨W7, hW7⟩ : ∃ W7, W.alloc (Obj.cells #[.int .u8 t.k, .int .i64 t.n, .int .i64 (t.v), .int .u8 (t.c), .slice none 0 0] 27) = W7 := ⟨_, rfl⟩
          rw [hW7] at HOut Hbx ⊢
          have hout := HOut.out
          have Hb7 := Lib.hid (Hb.out.trans (Hbx.out.mono Hb.out.size))
          have Hz7 := Lib.hid (Hz.out.below Hbx.out Hz.out.lt)
          have Hy7 := Lib.hid (Hy.out.below Hbx.out Hy.out.lt)
          clear hW7 HOut z0 z1 z2 z3 z4
          have HoutI : Hid (OutAt W7 (w.heap.size + 1 + 1) (w.heap.size + 1 + 1 + 1) (fun b => Kb ≤ b ∧ b < w.heap.size + 1 + 1 + 1) t.k t.n (t.v) (t.c) [] none 0) := Lib.hid hout
          clear hout
          go_loopg [8] m (fun gh i wr => ∃ (k : Nat) (A5 : Option Addr) (c5 : Nat), k ≤ m ∧ gh = m - k ∧ i = .int .i64 k ∧ OutAt wr (w.heap.size + 1 + 1) (w.heap.size + 1 + 1 + 1) (fun b => Kb ≤ b ∧ b < w.heap.size + 1 + 1 + 1) t.k t.n (t.v) (t.c) ((t.l.take k).map U) A5 c5 ∧ Below (w.heap.size + 1 + 1) W7 wr)
          case atStart => exact ⟨0, none, 0, Nat.zero_le _, rfl, rfl, HoutI.out, Below.refl _ _⟩
          case round =>
            obtain ⟨k, A5, c5, hk, rfl, rfl, hO, hbel⟩ := hrel
            have hW7r := Hb7.out.trans (hbel.mono hle2)
            have hzr := Hz7.out.below hbel hlt0
            have z4 := hzr.cell 4
            by_cases hkm : k < m
            · have d0 : decide (k < m) = true := by simpa using hkm
              have hk' : k < t.l.length := by omega
              have hlk : ((t.l.take k).map U).length = k := by rw [List.length_map, List.length_take]; omega
              obtain ⟨b, off, rfl, hb, hc⟩ := (HL.out.below hW7r).at_ (by omega)
              obtain ⟨e0, e1, e2, e3, Ax, mx, cx, e4, hx⟩ := tyAt_iff.1 (hc k hk')
              have hmx := mayT_kid HM.out hk'
              have hnx := HN.out k hk'
              have hst : (t.l.take (k + 1)).map U = (t.l.take k).map U ++ [U t.l[k]] := by rw [List.take_succ_eq_append_getElem hk', List.map_append]; rfl
              obtain ⟨x, hxk⟩ : ∃ x, t.l[k] = x := ⟨_, rfl⟩
              rw [hxk] at e0 e1 e2 e3 hx hmx hnx hst
              have hsr : w.heap.size + 1 + 1 + 1 ≤ wr.heap.size := by have := hO.1.lt; omega
              have h0w : Below w.heap.size w wr := hW7r
              have h0K : Below Kb w wr := hW7r.mono hK
              have hq := fun (W' : World) (h : Below wr.heap.size wr W') => Ih.out x hnx hmx Ax mx cx W' (((hx.more (by omega)).fresh h)) (HT.out.below (h0K.trans (h.mono (by omega)))) (by have := h.size; omega) ((HMs.out.fresh h0w).fresh h)
              obtain ⟨u, hu⟩ : ∃ u, U x = u := ⟨_, rfl⟩
              rw [hu] at hst
              simp only [hu] at hq
              obtain ⟨X, hX⟩ : ∃ X, (t.l.take k).map U = X := ⟨_, rfl⟩
              rw [hX] at hO hlk hst
              have x4 := hO.1.cell 4
              have hbr : b < wr.heap.size := by omega
              have HO := Lib.hid hO
              have Hq := Lib.hid hq
              have Hu := Lib.hid hu
              have Hst := Lib.hid hst
              have Hlk := Lib.hid hlk
              have Hbel := Lib.hid hbel
              have Hzr := Lib.hid hzr
              have k1 : (0 : Int) ≤ (k : Int) := by omega
              have k2 : (k : Int) < m := by omega
              clear hO hq hu hst hX hbel hzr hx hmx hnx hc hxk hW7r h0w h0K
              rw [hlk] at x4
              clear hlk
              go_wp2_with fail
              have hgs : w.heap.size + 1 + 1 < wr.heap.size := HO.out.1.lt
              have hps : w.heap.size < wr.heap.size := by omega
              have hbd : Below wr.heap.size wr wr.drew := Below.drew (Below.refl _ _)
              refine wp_region_noPanic ?_
              refine wp_region_T (fun w' => w'.cell? ⟨w.heap.size + 1 + 1, 4, none⟩ = some (.slice A5 k c5) ∧ w'.cell? ⟨w.heap.size, 4, none⟩ = some (.slice (some ⟨b, off, none⟩) m cp) ∧ w'.cell? ⟨b, off + k * 5, none⟩ = some (.int .u8 x.k) ∧ w'.cell? ⟨b, off + k * 5 + 1, none⟩ = some (.int .i64 x.n) ∧ w'.cell? ⟨b, off + k * 5 + 2, none⟩ = some (.int .i64 x.v) ∧ w'.cell? ⟨b, off + k * 5 + 3, none⟩ = some (.int .u8 x.c) ∧ w'.cell? ⟨b, off + k * 5 + 4, none⟩ = some (.slice Ax mx cx)) 12 (by kernel_rfl) ⟨x4, z4, e0, e1, e2, e3, e4⟩ (fun hHeld => ?_)
              refine wpAnyT_take (i := 0) (v := ?_) rfl (by kernel_rfl) (by kernel_rfl) (by kernel_rfl) (by kernel_rfl) (fun _ _ _ h => h) (Or.inl ⟨by rfl, ?_⟩) (by assumption) ?_
              rotate_left
              · (intro w hSw; (try dsimp only at hSw); first | (go_simp; done) | (go_simp; with_reducible rfl))
              try simp only [Act.put, List.getElem_toArray, List.getElem_cons_zero, List.getElem_cons_succ, List.setIfInBounds_toArray, List.set_cons_zero, List.set_cons_succ]
              refine wpAnyT_take (i := 1) (v := ?_) rfl (by kernel_rfl) (by kernel_rfl) (by kernel_rfl) (by kernel_rfl) (fun _ _ _ h => h) (Or.inl ⟨by rfl, ?_⟩) (by assumption) ?_
              rotate_left
              · (intro w hSw; (try dsimp only at hSw); first | (go_simp; done) | (go_simp; with_reducible rfl))
              try simp only [Act.put, List.getElem_toArray, List.getElem_cons_zero, List.getElem_cons_succ, List.setIfInBounds_toArray, List.set_cons_zero, List.set_cons_succ]
              refine wpAnyT_take (i := 2) (v := ?_) rfl (by kernel_rfl) (by kernel_rfl) (by kernel_rfl) (by kernel_rfl) (fun _ _ _ h => h) (Or.inl ⟨by rfl, ?_⟩) (by assumption) ?_
              rotate_left
              · (intro w hSw; (try dsimp only at hSw); first | (go_simp; done) | (go_simp; with_reducible rfl))
              try simp only [Act.put, List.getElem_toArray, List.getElem_cons_zero, List.getElem_cons_succ, List.setIfInBounds_toArray, List.set_cons_zero, List.set_cons_succ]
              refine wpAnyT_take (i := 3) (v := ?_) rfl (by kernel_rfl) (by kernel_rfl) (by kernel_rfl) (by kernel_rfl) (fun _ _ _ h => h) (Or.inl ⟨by rfl, ?_⟩) (by assumption) ?_
              rotate_left
              · (intro w hSw; (try dsimp only at hSw); first | (go_simp; done) | (go_simp; with_reducible rfl))
              try simp only [Act.put, List.getElem_toArray, List.getElem_cons_zero, List.getElem_cons_succ, List.setIfInBounds_toArray, List.set_cons_zero, List.set_cons_succ]
              refine wpAnyT_take (i := 4) (v := ?_) rfl (by kernel_rfl) (by kernel_rfl) (by kernel_rfl) (by kernel_rfl) (fun _ _ _ h => h) (Or.inl ⟨by rfl, ?_⟩) (by assumption) ?_
              rotate_left
              · (intro w hSw; (try dsimp only at hSw); first | (go_simp; done) | (go_simp; with_reducible rfl))
              try simp only [Act.put, List.getElem_toArray, List.getElem_cons_zero, List.getElem_cons_succ, List.setIfInBounds_toArray, List.set_cons_zero, List.set_cons_succ]
              refine wpAnyT_take (i := 5) (v := ?_) rfl (by kernel_rfl) (by kernel_rfl) (by kernel_rfl) (by kernel_rfl) (fun _ _ _ h => h) (Or.inl ⟨by rfl, ?_⟩) (by assumption) ?_
              rotate_left
              · (intro w hSw; (try dsimp only at hSw); first | (go_simp; done) | (go_simp; with_reducible rfl))
              try simp only [Act.put, List.getElem_toArray, List.getElem_cons_zero, List.getElem_cons_succ, List.setIfInBounds_toArray, List.set_cons_zero, List.set_cons_succ]
              refine wpAnyT_take (i := 6) (v := ?_) rfl (by kernel_rfl) (by kernel_rfl) (by kernel_rfl) (by kernel_rfl) (fun _ _ _ h => h) (Or.inl ⟨by rfl, ?_⟩) (by assumption) ?_
              rotate_left
              · (intro w hSw; (try dsimp only at hSw); first | (go_simp; done) | (go_simp; with_reducible rfl))
              try simp only [Act.put, List.getElem_toArray, List.getElem_cons_zero, List.getElem_cons_succ, List.setIfInBounds_toArray, List.set_cons_zero, List.set_cons_succ]
              refine wpAnyT_take (i := 7) (v := ?_) rfl (by kernel_rfl) (by kernel_rfl) (by kernel_rfl) (by kernel_rfl) (fun _ _ _ h => h) (Or.inl ⟨by rfl, ?_⟩) (by assumption) ?_
              rotate_left
              · (intro w hSw; (try dsimp only at hSw); first | (go_simp; done) | (go_simp; with_reducible rfl))
              try simp only [Act.put, List.getElem_toArray, List.getElem_cons_zero, List.getElem_cons_succ, List.setIfInBounds_toArray, List.set_cons_zero, List.set_cons_succ]
              refine wpAnyT_take (i := 8) (v := ?_) rfl (by kernel_rfl) (by kernel_rfl) (by kernel_rfl) (by kernel_rfl) (fun _ _ _ h => h) (Or.inl ⟨by rfl, ?_⟩) (by assumption) ?_
              rotate_left
              · (intro w hSw; (try dsimp only at hSw); first | (go_simp; done) | (go_simp; with_reducible rfl))
              try simp only [Act.put, List.getElem_toArray, List.getElem_cons_zero, List.getElem_cons_succ, List.setIfInBounds_toArray, List.set_cons_zero, List.set_cons_succ]
              refine wpAnyT_step (i := 9) (by kernel_rfl) rfl (fun K hK => ?_)
              (go_simp; refine (Hq.out _ hbd).mono ?_; rintro e w1 ⟨A7, m7, c7, rfl, h7, hb7⟩; have hb1 : Below wr.heap.size wr w1 := hbd.trans (hb7.mono hbd.size); have Hb1 := Lib.hid hb1; have H7 := Lib.hid h7; have hs1 := hb1.size; clear h7 hb7 hb1)
              refine hK.out _ _ ⟨(Hb1.out.cell (p := ⟨w.heap.size + 1 + 1, 4, none⟩) hgs).trans x4, (Hb1.out.cell (p := ⟨w.heap.size, 4, none⟩) hps).trans z4, (Hb1.out.cell (p := ⟨b, off + k * 5, none⟩) hbr).trans e0, (Hb1.out.cell (p := ⟨b, off + k * 5 + 1, none⟩) hbr).trans e1, (Hb1.out.cell (p := ⟨b, off + k * 5 + 2, none⟩) hbr).trans e2, (Hb1.out.cell (p := ⟨b, off + k * 5 + 3, none⟩) hbr).trans e3, (Hb1.out.cell (p := ⟨b, off + k * 5 + 4, none⟩) hbr).trans e4⟩ ?_
              clear hK K
              try simp only [Act.put, List.getElem_toArray, List.getElem_cons_zero, List.getElem_cons_succ, List.setIfInBounds_toArray, List.set_cons_zero, List.set_cons_succ]
              have y4 := (Hb1.out.cell (p := ⟨w.heap.size + 1 + 1, 4, none⟩) hgs).trans x4
              have t4 := (Hb1.out.cell (p := ⟨w.heap.size, 4, none⟩) hps).trans z4
              have g0 := (Hb1.out.cell (p := ⟨b, off + k * 5, none⟩) hbr).trans e0
              have g1 := (Hb1.out.cell (p := ⟨b, off + k * 5 + 1, none⟩) hbr).trans e1
              have g2 := (Hb1.out.cell (p := ⟨b, off + k * 5 + 2, none⟩) hbr).trans e2
              have g3 := (Hb1.out.cell (p := ⟨b, off + k * 5 + 3, none⟩) hbr).trans e3
              have g4 := (Hb1.out.cell (p := ⟨b, off + k * 5 + 4, none⟩) hbr).trans e4
              have hgs1 : w.heap.size + 1 + 1 < w1.heap.size := by omega
              have hps1 : w.heap.size < w1.heap.size := by omega
              have hbr1 : b < w1.heap.size := by omega
              clear x4 z4 e0 e1 e2 e3 e4
              refine wpAnyT_step (i := 9 + 1) (by kernel_rfl) rfl (fun K hK => ?_)
              go_simp
              refine hK.out _ _ ⟨(World.cell?_alloc_lt _ _ ⟨w.heap.size + 1 + 1, 4, none⟩ hgs1).trans y4, (World.cell?_alloc_lt _ _ ⟨w.heap.size, 4, none⟩ hps1).trans t4, (World.cell?_alloc_lt _ _ ⟨b, off + k * 5, none⟩ hbr1).trans g0, (World.cell?_alloc_lt _ _ ⟨b, off + k * 5 + 1, none⟩ hbr1).trans g1, (World.cell?_alloc_lt _ _ ⟨b, off + k * 5 + 2, none⟩ hbr1).trans g2, (World.cell?_alloc_lt _ _ ⟨b, off + k * 5 + 3, none⟩ hbr1).trans g3, (World.cell?_alloc_lt _ _ ⟨b, off + k * 5 + 4, none⟩ hbr1).trans g4⟩ ?_
              clear hK K
              try simp only [Act.put, List.getElem_toArray, List.getElem_cons_zero, List.getElem_cons_succ, List.setIfInBounds_toArray, List.set_cons_zero, List.set_cons_succ]
              have hs0 := HO.out.2.1.lt
              have hcV : CelsV w1 (fun b => b < w1.heap.size ∧ some b ≠ (Value.slice A5 X.length c5).ownBlock ∧ ¬ (Kb ≤ b ∧ b < w.heap.size + 1 + 1 + 1)) (encT u) [.int .u8 u.k, .int .i64 u.n, .int .i64 u.v, .int .u8 u.c, .slice A7 m7 c7] := tyC (H7.out.mono fun q hq => by
                rcases hq with hq | hq
                · refine ⟨by omega, fun e => ?_, by omega⟩
                  have := (hs0 q e.symm).1
                  omega
                · have hq1 : wr.heap.size ≤ q := hq.1
                  refine ⟨hq.2, fun e => ?_, by omega⟩
                  have := (hs0 q e.symm).2
                  omega)
              have hO1 := HO.out.2.1.beyond Hb1.out
              have hlk := Hlk.out
              rw [hlk] at hcV hO1
              have HcV := Lib.hid hcV
              have HO1 := Lib.hid hO1
              have HB1 := Lib.hid (Hbel.out.trans (Hb1.out.mono (by omega)))
              clear hcV hO1 hs0 H7
              refine wpAnyT_step (i := 9 + 2) (by kernel_rfl) rfl (fun K hK => ?_)
              (refine step_append_cel W7 w1 (by rfl) (.tmp 63) (.tmp 72) 25 (by rfl) (w.heap.size + 1 + 1 + 1) 27 i0 _ 5 56 Tryd.underlying25 hi0 hz0 hz1 hz2 rfl (by omega) (fun b => Kb ≤ b ∧ b < w.heap.size + 1 + 1 + 1) (.slice A5 k c5) k _ (by rfl) [.int .u8 u.k, .int .i64 u.n, .int .i64 u.v, .int .u8 u.c, .slice A7 m7 c7] (encT u) rfl (by intro u hu; simp at hu; rcases hu with rfl | rfl | rfl | rfl | rfl <;> rfl) (by rfl) HO1.out HcV.out (by unfold maxLen; have := mayT_len HM.out; omega) (by have := mayT_len HM.out; omega) HB1.out (by omega) (by omega) ?_; intro A8 c8 w8 ho8 hbel8 hg8 hsz8 _; have hgb : some (w.heap.size + 1 + 1) ≠ (Value.slice A5 k c5).ownBlock := (fun e => by have := (HO1.out.lt _ e.symm).1; omega); have hpb : some w.heap.size ≠ (Value.slice A5 k c5).ownBlock := (fun e => by have := (HO1.out.lt _ e.symm).1; omega); have hbb : some b ≠ (Value.slice A5 k c5).ownBlock := (fun e => by have := (HO1.out.lt _ e.symm).1; omega); have hcg : ∀ j, w8.cell? ⟨w.heap.size + 1 + 1, j, none⟩ = w1.cell? ⟨w.heap.size + 1 + 1, j, none⟩ := (fun j => World.cell?_of_block (hg8.block (w.heap.size + 1 + 1) hgs1 hgb)); have hcp : ∀ j, w8.cell? ⟨w.heap.size, j, none⟩ = w1.cell? ⟨w.heap.size, j, none⟩ := (fun j => World.cell?_of_block (hg8.block w.heap.size hps1 hpb)); have hcb : ∀ j, w8.cell? ⟨b, j, none⟩ = w1.cell? ⟨b, j, none⟩ := (fun j => World.cell?_of_block (hg8.block b hbr1 hbb)))
              refine hK.out _ _ ⟨(hcg _).trans y4, (hcp _).trans t4, (hcb _).trans g0, (hcb _).trans g1, (hcb _).trans g2, (hcb _).trans g3, (hcb _).trans g4⟩ ?_
              clear hK K
              try simp only [Act.put, List.getElem_toArray, List.getElem_cons_zero, List.getElem_cons_succ, List.setIfInBounds_toArray, List.set_cons_zero, List.set_cons_succ]
              have q4 := (hcg 4).trans y4
              have qf : w8.frozen? ⟨w.heap.size + 1 + 1, 4, none⟩ = false := ((HO.out.1.below Hb1.out HO.out.1.lt).grown hg8 hgb).frozen 4
              have Hpush : Hid (OutAt (w8.setCell ⟨w.heap.size + 1 + 1, 4, none⟩ (.slice A8 (k + 1) c8)) (w.heap.size + 1 + 1) (w.heap.size + 1 + 1 + 1) (fun b => Kb ≤ b ∧ b < w.heap.size + 1 + 1 + 1) t.k t.n (t.v) (t.c) ((t.l.take (k + 1)).map U) A8 c8) := by
                have h := OutAt.push (HO.out.below Hb1.out) (A6 := A8) (c6 := c8) (w' := w8) u
                rw [Hlk.out] at h
                rw [Hst.out]
                exact Lib.hid (h ho8 hg8)
              have Hb8 := Lib.hid (hbel8.setCell (p := ⟨w.heap.size + 1 + 1, 4, none⟩) (Nat.le_refl _) (.slice A8 (k + 1) c8))
              clear hcg hcp hcb hgb hpb hbb ho8 hbel8 hg8 y4 t4 g0 g1 g2 g3 g4
              refine wpAnyT_seq 12 (by omega) (by rfl) (by kernel_rfl) ?_
              simp only [List.drop_succ_cons, List.drop_zero]
              go_wp2_with fail
              refine NoPanic.normal ?_
              clear q4 qf
              go_wp2_with fail
              go_roundg (m - (k + 1))
              case measure => omega
              case rel => exact ⟨k + 1, A8, c8, by omega, rfl, by go_num, Hpush.out, Hb8.out⟩
            · have d0 : decide (k < m) = false := by simpa using hkm
              have hall : t.l.take k = t.l := List.take_of_length_le (by omega)
              rw [hall] at hO
              have hT := OutAt.done (s := w.heap.size + 1 + 1 + 1) hO (Nat.le_refl _) (by omega)
              have hlm : (t.l.map U).length = m := by rw [List.length_map]; exact hlen
              have hk5 := hO.1
              rw [hlm] at hk5 hT
              have x0 := hk5.cell 0
              have x1 := hk5.cell 1
              have x2 := hk5.cell 2
              have x3 := hk5.cell 3
              have x4 := hk5.cell 4
              have hyr := Hy7.out.below hbel (by omega)
              have s0 := hyr.frozen 0
              have s1 := hyr.frozen 1
              have s2 := hyr.frozen 2
              have s3 := hyr.frozen 3
              have s4 := hyr.frozen 4
              have r0 := hyr.cell 0
              have r1 := hyr.cell 1
              have r2 := hyr.cell 2
              have r3 := hyr.cell 3
              have r4 := hyr.cell 4
              have hg1 : w.heap.size ≤ w.heap.size + 1 := by omega
              have Hyr := Lib.hid hyr
              have HT5 := Lib.hid hT
              have HbF := Lib.hid hW7r
              clear hO hk5 hT hyr hall hlm hbel hzr hW7r
              go_wp2_with fail
              have hyr := Hyr.out
              have hW7r := HbF.out
              have hs9 := ((((hyr.set_ 0 (.int .u8 (t.k))).set_ 1 (.int .i64 (t.n))).set_ 2 (.int .i64 (t.v))).set_ 3 (.int .u8 (t.c))).set_ 4 (.slice A5 m c5)
              have hb9 := ((((hW7r.setCell (p := ⟨w.heap.size + 1, 0, none⟩) hg1 (.int .u8 (t.k))).setCell (p := ⟨w.heap.size + 1, 1, none⟩) hg1 (.int .i64 (t.n))).setCell (p := ⟨w.heap.size + 1, 2, none⟩) hg1 (.int .i64 (t.v))).setCell (p := ⟨w.heap.size + 1, 3, none⟩) hg1 (.int .u8 (t.c))).setCell (p := ⟨w.heap.size + 1, 4, none⟩) hg1 (.slice A5 m c5)
              generalize hW9 : ((((((wr).setCell ⟨w.heap.size + 1, 0, none⟩ (.int .u8 (t.k))).setCell ⟨w.heap.size + 1, 1, none⟩ (.int .i64 (t.n))).setCell ⟨w.heap.size + 1, 2, none⟩ (.int .i64 (t.v))).setCell ⟨w.heap.size + 1, 3, none⟩ (.int .u8 (t.c))).setCell ⟨w.heap.size + 1, 4, none⟩ (.slice A5 m c5)) = W9 at hs9 hb9 ⊢
              replace hs9 : Blk W9 (w.heap.size + 1) 27 #[.int .u8 (t.k), .int .i64 (t.n), .int .i64 (t.v), .int .u8 (t.c), .slice A5 m c5] := hs9
              have d0' : W9.cell? ⟨w.heap.size + 1, 0, none⟩ = some (.int .u8 (t.k)) := hs9.cell 0
              have d1' : W9.cell? ⟨w.heap.size + 1, 1, none⟩ = some (.int .i64 (t.n)) := hs9.cell 1
              have d2' : W9.cell? ⟨w.heap.size + 1, 2, none⟩ = some (.int .i64 (t.v)) := hs9.cell 2
              have d3' : W9.cell? ⟨w.heap.size + 1, 3, none⟩ = some (.int .u8 (t.c)) := hs9.cell 3
              have d4' : W9.cell? ⟨w.heap.size + 1, 4, none⟩ = some (.slice A5 m c5) := hs9.cell 4
              have hT9 : TysS W9 (fun b => b < Kb ∨ (w.heap.size ≤ b ∧ b < W9.heap.size)) A5 m c5 (t.l.map U) := by
                rw [← hW9]
                refine HT5.out.keep (fun b hb => ?_) fun p hp => ?_
                · rcases hb with hb | hb
                  · exact .inl hb
                  · exact .inr ⟨by omega, by simpa using hb.2⟩
                · have c1 : ∀ (W' : World) (o : Nat) (v : Value), (W'.setCell ⟨w.heap.size + 1, o, none⟩ v).cell? p = W'.cell? p := fun W' o v => World.cell?_setCell_other _ _ _ _ (fun e => by
                    have e1 : w.heap.size + 1 = p.block := by rw [← e]
                    rcases hp with hp | hp <;> omega)
                  rw [c1, c1, c1, c1, c1]
              exact bodyPost_ret (v := .agg #[.int .u8 t.k, .int .i64 t.n, .int .i64 (t.v), .int .u8 (t.c), .slice A5 m c5]) (by simp [results, Tryd.results35, go_sem, d0', d1', d2', d3', d4']) rfl (by rw [HR.out]; exact ⟨A5, m, c5, rfl, hT9, hb9⟩)
      · have d7 : (t.k == 7) = false := by simpa using h7
        by_cases h1 : t.k = 1
        · have d1 : (t.k == 1) = true := by simp [h1]
          have d2 : decide (t.n < n1) = false := by simp; exact Int.not_lt.1 fun h => hvar ⟨h1, h⟩
          have HR : Hid (turnT (putV types) (putM ms) t = .mk t.k t.n t.v t.c (t.l.map U)) := Lib.hid (by rw [← HU.out]; exact leaf_turn HM.out h1 (hvn h1))
          clear h1 hvn hvar h7
          have HOut : Hid (OutAt (W.alloc (Obj.cells #[.int .u8 t.k, .int .i64 t.n, .int .i64 (t.v), .int .u8 (t.c), .slice none 0 0] 27)) (w.heap.size + 1 + 1) (w.heap.size + 1 + 1 + 1) (fun b => Kb ≤ b ∧ b < w.heap.size + 1 + 1 + 1) t.k t.n (t.v) (t.c) [] none 0) := Lib.hid ⟨by rw [← hsz]; exact blk_new W _ _, OwnC.nil, ⟨by omega, by omega⟩, by omega⟩
          have Hbx := Lib.hid (below_box (w := W) (Obj.cells #[.int .u8 t.k, .int .i64 t.n, .int .i64 (t.v), .int .u8 (t.c), .slice none 0 0] 27))
          go_enter Tryd.func35, Tryd.ntmps35
          go_wp2_with fail
          rw [HW.out]
          obtain ⟨W7, hW7⟩ : ∃ W7, W.alloc (Obj.cells #[.int .u8 t.k, .int .i64 t.n, .int .i64 (t.v), .int .u8 (t.c), .slice none 0 0] 27) = W7 := ⟨_, rfl⟩
          rw [hW7] at HOut Hbx ⊢
          have hout := HOut.out
          have Hb7 := Lib.hid (Hb.out.trans (Hbx.out.mono Hb.out.size))
          have Hz7 := Lib.hid (Hz.out.below Hbx.out Hz.out.lt)
          have Hy7 := Lib.hid (Hy.out.below Hbx.out Hy.out.lt)
          clear hW7 HOut z0 z1 z2 z3 z4
          have HoutI : Hid (OutAt W7 (w.heap.size + 1 + 1) (w.heap.size + 1 + 1 + 1) (fun b => Kb ≤ b ∧ b < w.heap.size + 1 + 1 + 1) t.k t.n (t.v) (t.c) [] none 0) := Lib.hid hout
          clear hout
          go_loopg [8] m (fun gh i wr => ∃ (k : Nat) (A5 : Option Addr) (c5 : Nat), k ≤ m ∧ gh = m - k ∧ i = .int .i64 k ∧ OutAt wr (w.heap.size + 1 + 1) (w.heap.size + 1 + 1 + 1) (fun b => Kb ≤ b ∧ b < w.heap.size + 1 + 1 + 1) t.k t.n (t.v) (t.c) ((t.l.take k).map U) A5 c5 ∧ Below (w.heap.size + 1 + 1) W7 wr)
          case atStart => exact ⟨0, none, 0, Nat.zero_le _, rfl, rfl, HoutI.out, Below.refl _ _⟩
          case round =>
            obtain ⟨k, A5, c5, hk, rfl, rfl, hO, hbel⟩ := hrel
            have hW7r := Hb7.out.trans (hbel.mono hle2)
            have hzr := Hz7.out.below hbel hlt0
            have z4 := hzr.cell 4
            by_cases hkm : k < m
            · have d0 : decide (k < m) = true := by simpa using hkm
              have hk' : k < t.l.length := by omega
              have hlk : ((t.l.take k).map U).length = k := by rw [List.length_map, List.length_take]; omega
              obtain ⟨b, off, rfl, hb, hc⟩ := (HL.out.below hW7r).at_ (by omega)
              obtain ⟨e0, e1, e2, e3, Ax, mx, cx, e4, hx⟩ := tyAt_iff.1 (hc k hk')
              have hmx := mayT_kid HM.out hk'
              have hnx := HN.out k hk'
              have hst : (t.l.take (k + 1)).map U = (t.l.take k).map U ++ [U t.l[k]] := by rw [List.take_succ_eq_append_getElem hk', List.map_append]; rfl
              obtain ⟨x, hxk⟩ : ∃ x, t.l[k] = x := ⟨_, rfl⟩
              rw [hxk] at e0 e1 e2 e3 hx hmx hnx hst
              have hsr : w.heap.size + 1 + 1 + 1 ≤ wr.heap.size := by have := hO.1.lt; omega
              have h0w : Below w.heap.size w wr := hW7r
              have h0K : Below Kb w wr := hW7r.mono hK
              have hq := fun (W' : World) (h : Below wr.heap.size wr W') => Ih.out x hnx hmx Ax mx cx W' (((hx.more (by omega)).fresh h)) (HT.out.below (h0K.trans (h.mono (by omega)))) (by have := h.size; omega) ((HMs.out.fresh h0w).fresh h)
              obtain ⟨u, hu⟩ : ∃ u, U x = u := ⟨_, rfl⟩
              rw [hu] at hst
              simp only [hu] at hq
              obtain ⟨X, hX⟩ : ∃ X, (t.l.take k).map U = X := ⟨_, rfl⟩
              rw [hX] at hO hlk hst
              have x4 := hO.1.cell 4
              have hbr : b < wr.heap.size := by omega
              have HO := Lib.hid hO
              have Hq := Lib.hid hq
              have Hu := Lib.hid hu
              have Hst := Lib.hid hst
              have Hlk := Lib.hid hlk
              have Hbel := Lib.hid hbel
              have Hzr := Lib.hid hzr
              have k1 : (0 : Int) ≤ (k : Int) := by omega
              have k2 : (k : Int) < m := by omega
              clear hO hq hu hst hX hbel hzr hx hmx hnx hc hxk hW7r h0w h0K
              rw [hlk] at x4
              clear hlk
              go_wp2_with fail
              have hgs : w.heap.size + 1 + 1 < wr.heap.size := HO.out.1.lt
              have hps : w.heap.size < wr.heap.size := by omega
              have hbd : Below wr.heap.size wr wr.drew := Below.drew (Below.refl _ _)
              refine wp_region_noPanic ?_
              refine wp_region_T (fun w' => w'.cell? ⟨w.heap.size + 1 + 1, 4, none⟩ = some (.slice A5 k c5) ∧ w'.cell? ⟨w.heap.size, 4, none⟩ = some (.slice (some ⟨b, off, none⟩) m cp) ∧ w'.cell? ⟨b, off + k * 5, none⟩ = some (.int .u8 x.k) ∧ w'.cell? ⟨b, off + k * 5 + 1, none⟩ = some (.int .i64 x.n) ∧ w'.cell? ⟨b, off + k * 5 + 2, none⟩ = some (.int .i64 x.v) ∧ w'.cell? ⟨b, off + k * 5 + 3, none⟩ = some (.int .u8 x.c) ∧ w'.cell? ⟨b, off + k * 5 + 4, none⟩ = some (.slice Ax mx cx)) 12 (by kernel_rfl) ⟨x4, z4, e0, e1, e2, e3, e4⟩ (fun hHeld => ?_)
              refine wpAnyT_take (i := 0) (v := ?_) rfl (by kernel_rfl) (by kernel_rfl) (by kernel_rfl) (by kernel_rfl) (fun _ _ _ h => h) (Or.inl ⟨by rfl, ?_⟩) (by assumption) ?_
              rotate_left
              · (intro w hSw; (try dsimp only at hSw); first | (go_simp; done) | (go_simp; with_reducible rfl))
              try simp only [Act.put, List.getElem_toArray, List.getElem_cons_zero, List.getElem_cons_succ, List.setIfInBounds_toArray, List.set_cons_zero, List.set_cons_succ]
              refine wpAnyT_take (i := 1) (v := ?_) rfl (by kernel_rfl) (by kernel_rfl) (by kernel_rfl) (by kernel_rfl) (fun _ _ _ h => h) (Or.inl ⟨by rfl, ?_⟩) (by assumption) ?_
              rotate_left
              · (intro w hSw; (try dsimp only at hSw); first | (go_simp; done) | (go_simp; with_reducible rfl))
              try simp only [Act.put, List.getElem_toArray, List.getElem_cons_zero, List.getElem_cons_succ, List.setIfInBounds_toArray, List.set_cons_zero, List.set_cons_succ]
              refine wpAnyT_take (i := 2) (v := ?_) rfl (by kernel_rfl) (by kernel_rfl) (by kernel_rfl) (by kernel_rfl) (fun _ _ _ h => h) (Or.inl ⟨by rfl, ?_⟩) (by assumption) ?_
              rotate_left
              · (intro w hSw; (try dsimp only at hSw); first | (go_simp; done) | (go_simp; with_reducible rfl))
              try simp only [Act.put, List.getElem_toArray, List.getElem_cons_zero, List.getElem_cons_succ, List.setIfInBounds_toArray, List.set_cons_zero, List.set_cons_succ]
              refine wpAnyT_take (i := 3) (v := ?_) rfl (by kernel_rfl) (by kernel_rfl) (by kernel_rfl) (by kernel_rfl) (fun _ _ _ h => h) (Or.inl ⟨by rfl, ?_⟩) (by assumption) ?_
              rotate_left
              · (intro w hSw; (try dsimp only at hSw); first | (go_simp; done) | (go_simp; with_reducible rfl))
              try simp only [Act.put, List.getElem_toArray, List.getElem_cons_zero, List.getElem_cons_succ, List.setIfInBounds_toArray, List.set_cons_zero, List.set_cons_succ]
              refine wpAnyT_take (i := 4) (v := ?_) rfl (by kernel_rfl) (by kernel_rfl) (by kernel_rfl) (by kernel_rfl) (fun _ _ _ h => h) (Or.inl ⟨by rfl, ?_⟩) (by assumption) ?_
              rotate_left
              · (intro w hSw; (try dsimp only at hSw); first | (go_simp; done) | (go_simp; with_reducible rfl))
              try simp only [Act.put, List.getElem_toArray, List.getElem_cons_zero, List.getElem_cons_succ, List.setIfInBounds_toArray, List.set_cons_zero, List.set_cons_succ]
              refine wpAnyT_take (i := 5) (v := ?_) rfl (by kernel_rfl) (by kernel_rfl) (by kernel_rfl) (by kernel_rfl) (fun _ _ _ h => h) (Or.inl ⟨by rfl, ?_⟩) (by assumption) ?_
              rotate_left
              · (intro w hSw; (try dsimp only at hSw); first | (go_simp; done) | (go_simp; with_reducible rfl))
              try simp only [Act.put, List.getElem_toArray, List.getElem_cons_zero, List.getElem_cons_succ, List.setIfInBounds_toArray, List.set_cons_zero, List.set_cons_succ]
              refine wpAnyT_take (i := 6) (v := ?_) rfl (by kernel_rfl) (by kernel_rfl) (by kernel_rfl) (by kernel_rfl) (fun _ _ _ h => h) (Or.inl ⟨by rfl, ?_⟩) (by assumption) ?_
              rotate_left
              · (intro w hSw; (try dsimp only at hSw); first | (go_simp; done) | (go_simp; with_reducible rfl))
              try simp only [Act.put, List.getElem_toArray, List.getElem_cons_zero, List.getElem_cons_succ, List.setIfInBounds_toArray, List.set_cons_zero, List.set_cons_succ]
              refine wpAnyT_take (i := 7) (v := ?_) rfl (by kernel_rfl) (by kernel_rfl) (by kernel_rfl) (by kernel_rfl) (fun _ _ _ h => h) (Or.inl ⟨by rfl, ?_⟩) (by assumption) ?_
              rotate_left
              · (intro w hSw; (try dsimp only at hSw); first | (go_simp; done) | (go_simp; with_reducible rfl))
              try simp only [Act.put, List.getElem_toArray, List.getElem_cons_zero, List.getElem_cons_succ, List.setIfInBounds_toArray, List.set_cons_zero, List.set_cons_succ]
              refine wpAnyT_take (i := 8) (v := ?_) rfl (by kernel_rfl) (by kernel_rfl) (by kernel_rfl) (by kernel_rfl) (fun _ _ _ h => h) (Or.inl ⟨by rfl, ?_⟩) (by assumption) ?_
              rotate_left
              · (intro w hSw; (try dsimp only at hSw); first | (go_simp; done) | (go_simp; with_reducible rfl))
              try simp only [Act.put, List.getElem_toArray, List.getElem_cons_zero, List.getElem_cons_succ, List.setIfInBounds_toArray, List.set_cons_zero, List.set_cons_succ]
              refine wpAnyT_step (i := 9) (by kernel_rfl) rfl (fun K hK => ?_)
              (go_simp; refine (Hq.out _ hbd).mono ?_; rintro e w1 ⟨A7, m7, c7, rfl, h7, hb7⟩; have hb1 : Below wr.heap.size wr w1 := hbd.trans (hb7.mono hbd.size); have Hb1 := Lib.hid hb1; have H7 := Lib.hid h7; have hs1 := hb1.size; clear h7 hb7 hb1)
              refine hK.out _ _ ⟨(Hb1.out.cell (p := ⟨w.heap.size + 1 + 1, 4, none⟩) hgs).trans x4, (Hb1.out.cell (p := ⟨w.heap.size, 4, none⟩) hps).trans z4, (Hb1.out.cell (p := ⟨b, off + k * 5, none⟩) hbr).trans e0, (Hb1.out.cell (p := ⟨b, off + k * 5 + 1, none⟩) hbr).trans e1, (Hb1.out.cell (p := ⟨b, off + k * 5 + 2, none⟩) hbr).trans e2, (Hb1.out.cell (p := ⟨b, off + k * 5 + 3, none⟩) hbr).trans e3, (Hb1.out.cell (p := ⟨b, off + k * 5 + 4, none⟩) hbr).trans e4⟩ ?_
              clear hK K
              try simp only [Act.put, List.getElem_toArray, List.getElem_cons_zero, List.getElem_cons_succ, List.setIfInBounds_toArray, List.set_cons_zero, List.set_cons_succ]
              have y4 := (Hb1.out.cell (p := ⟨w.heap.size + 1 + 1, 4, none⟩) hgs).trans x4
              have t4 := (Hb1.out.cell (p := ⟨w.heap.size, 4, none⟩) hps).trans z4
              have g0 := (Hb1.out.cell (p := ⟨b, off + k * 5, none⟩) hbr).trans e0
              have g1 := (Hb1.out.cell (p := ⟨b, off + k * 5 + 1, none⟩) hbr).trans e1
              have g2 := (Hb1.out.cell (p := ⟨b, off + k * 5 + 2, none⟩) hbr).trans e2
              have g3 := (Hb1.out.cell (p := ⟨b, off + k * 5 + 3, none⟩) hbr).trans e3
              have g4 := (Hb1.out.cell (p := ⟨b, off + k * 5 + 4, none⟩) hbr).trans e4
              have hgs1 : w.heap.size + 1 + 1 < w1.heap.size := by omega
              have hps1 : w.heap.size < w1.heap.size := by omega
              have hbr1 : b < w1.heap.size := by omega
              clear x4 z4 e0 e1 e2 e3 e4
              refine wpAnyT_step (i := 9 + 1) (by kernel_rfl) rfl (fun K hK => ?_)
              go_simp
              refine hK.out _ _ ⟨(World.cell?_alloc_lt _ _ ⟨w.heap.size + 1 + 1, 4, none⟩ hgs1).trans y4, (World.cell?_alloc_lt _ _ ⟨w.heap.size, 4, none⟩ hps1).trans t4, (World.cell?_alloc_lt _ _ ⟨b, off + k * 5, none⟩ hbr1).trans g0, (World.cell?_alloc_lt _ _ ⟨b, off + k * 5 + 1, none⟩ hbr1).trans g1, (World.cell?_alloc_lt _ _ ⟨b, off + k * 5 + 2, none⟩ hbr1).trans g2, (World.cell?_alloc_lt _ _ ⟨b, off + k * 5 + 3, none⟩ hbr1).trans g3, (World.cell?_alloc_lt _ _ ⟨b, off + k * 5 + 4, none⟩ hbr1).trans g4⟩ ?_
              clear hK K
              try simp only [Act.put, List.getElem_toArray, List.getElem_cons_zero, List.getElem_cons_succ, List.setIfInBounds_toArray, List.set_cons_zero, List.set_cons_succ]
              have hs0 := HO.out.2.1.lt
              have hcV : CelsV w1 (fun b => b < w1.heap.size ∧ some b ≠ (Value.slice A5 X.length c5).ownBlock ∧ ¬ (Kb ≤ b ∧ b < w.heap.size + 1 + 1 + 1)) (encT u) [.int .u8 u.k, .int .i64 u.n, .int .i64 u.v, .int .u8 u.c, .slice A7 m7 c7] := tyC (H7.out.mono fun q hq => by
                rcases hq with hq | hq
                · refine ⟨by omega, fun e => ?_, by omega⟩
                  have := (hs0 q e.symm).1
                  omega
                · have hq1 : wr.heap.size ≤ q := hq.1
                  refine ⟨hq.2, fun e => ?_, by omega⟩
                  have := (hs0 q e.symm).2
                  omega)
              have hO1 := HO.out.2.1.beyond Hb1.out
              have hlk := Hlk.out
              rw [hlk] at hcV hO1
              have HcV := Lib.hid hcV
              have HO1 := Lib.hid hO1
              have HB1 := Lib.hid (Hbel.out.trans (Hb1.out.mono (by omega)))
              clear hcV hO1 hs0 H7
              refine wpAnyT_step (i := 9 + 2) (by kernel_rfl) rfl (fun K hK => ?_)
              (refine step_append_cel W7 w1 (by rfl) (.tmp 63) (.tmp 72) 25 (by rfl) (w.heap.size + 1 + 1 + 1) 27 i0 _ 5 56 Tryd.underlying25 hi0 hz0 hz1 hz2 rfl (by omega) (fun b => Kb ≤ b ∧ b < w.heap.size + 1 + 1 + 1) (.slice A5 k c5) k _ (by rfl) [.int .u8 u.k, .int .i64 u.n, .int .i64 u.v, .int .u8 u.c, .slice A7 m7 c7] (encT u) rfl (by intro u hu; simp at hu; rcases hu with rfl | rfl | rfl | rfl | rfl <;> rfl) (by rfl) HO1.out HcV.out (by unfold maxLen; have := mayT_len HM.out; omega) (by have := mayT_len HM.out; omega) HB1.out (by omega) (by omega) ?_; intro A8 c8 w8 ho8 hbel8 hg8 hsz8 _; have hgb : some (w.heap.size + 1 + 1) ≠ (Value.slice A5 k c5).ownBlock := (fun e => by have := (HO1.out.lt _ e.symm).1; omega); have hpb : some w.heap.size ≠ (Value.slice A5 k c5).ownBlock := (fun e => by have := (HO1.out.lt _ e.symm).1; omega); have hbb : some b ≠ (Value.slice A5 k c5).ownBlock := (fun e => by have := (HO1.out.lt _ e.symm).1; omega); have hcg : ∀ j, w8.cell? ⟨w.heap.size + 1 + 1, j, none⟩ = w1.cell? ⟨w.heap.size + 1 + 1, j, none⟩ := (fun j => World.cell?_of_block (hg8.block (w.heap.size + 1 + 1) hgs1 hgb)); have hcp : ∀ j, w8.cell? ⟨w.heap.size, j, none⟩ = w1.cell? ⟨w.heap.size, j, none⟩ := (fun j => World.cell?_of_block (hg8.block w.heap.size hps1 hpb)); have hcb : ∀ j, w8.cell? ⟨b, j, none⟩ = w1.cell? ⟨b, j, none⟩ := (fun j => World.cell?_of_block (hg8.block b hbr1 hbb)))
              refine hK.out _ _ ⟨(hcg _).trans y4, (hcp _).trans t4, (hcb _).trans g0, (hcb _).trans g1, (hcb _).trans g2, (hcb _).trans g3, (hcb _).trans g4⟩ ?_
              clear hK K
              try simp only [Act.put, List.getElem_toArray, List.getElem_cons_zero, List.getElem_cons_succ, List.setIfInBounds_toArray, List.set_cons_zero, List.set_cons_succ]
              have q4 := (hcg 4).trans y4
              have qf : w8.frozen? ⟨w.heap.size + 1 + 1, 4, none⟩ = false := ((HO.out.1.below Hb1.out HO.out.1.lt).grown hg8 hgb).frozen 4
              have Hpush : Hid (OutAt (w8.setCell ⟨w.heap.size + 1 + 1, 4, none⟩ (.slice A8 (k + 1) c8)) (w.heap.size + 1 + 1) (w.heap.size + 1 + 1 + 1) (fun b => Kb ≤ b ∧ b < w.heap.size + 1 + 1 + 1) t.k t.n (t.v) (t.c) ((t.l.take (k + 1)).map U) A8 c8) := by
                have h := OutAt.push (HO.out.below Hb1.out) (A6 := A8) (c6 := c8) (w' := w8) u
                rw [Hlk.out] at h
                rw [Hst.out]
                exact Lib.hid (h ho8 hg8)
              have Hb8 := Lib.hid (hbel8.setCell (p := ⟨w.heap.size + 1 + 1, 4, none⟩) (Nat.le_refl _) (.slice A8 (k + 1) c8))
              clear hcg hcp hcb hgb hpb hbb ho8 hbel8 hg8 y4 t4 g0 g1 g2 g3 g4
              refine wpAnyT_seq 12 (by omega) (by rfl) (by kernel_rfl) ?_
              simp only [List.drop_succ_cons, List.drop_zero]
              go_wp2_with fail
              refine NoPanic.normal ?_
              clear q4 qf
              go_wp2_with fail
              go_roundg (m - (k + 1))
              case measure => omega
              case rel => exact ⟨k + 1, A8, c8, by omega, rfl, by go_num, Hpush.out, Hb8.out⟩
            · have d0 : decide (k < m) = false := by simpa using hkm
              have hall : t.l.take k = t.l := List.take_of_length_le (by omega)
              rw [hall] at hO
              have hT := OutAt.done (s := w.heap.size + 1 + 1 + 1) hO (Nat.le_refl _) (by omega)
              have hlm : (t.l.map U).length = m := by rw [List.length_map]; exact hlen
              have hk5 := hO.1
              rw [hlm] at hk5 hT
              have x0 := hk5.cell 0
              have x1 := hk5.cell 1
              have x2 := hk5.cell 2
              have x3 := hk5.cell 3
              have x4 := hk5.cell 4
              have hyr := Hy7.out.below hbel (by omega)
              have s0 := hyr.frozen 0
              have s1 := hyr.frozen 1
              have s2 := hyr.frozen 2
              have s3 := hyr.frozen 3
              have s4 := hyr.frozen 4
              have r0 := hyr.cell 0
              have r1 := hyr.cell 1
              have r2 := hyr.cell 2
              have r3 := hyr.cell 3
              have r4 := hyr.cell 4
              have hg1 : w.heap.size ≤ w.heap.size + 1 := by omega
              have Hyr := Lib.hid hyr
              have HT5 := Lib.hid hT
              have HbF := Lib.hid hW7r
              clear hO hk5 hT hyr hall hlm hbel hzr hW7r
              go_wp2_with fail
              have hyr := Hyr.out
              have hW7r := HbF.out
              have hs9 := ((((hyr.set_ 0 (.int .u8 (t.k))).set_ 1 (.int .i64 (t.n))).set_ 2 (.int .i64 (t.v))).set_ 3 (.int .u8 (t.c))).set_ 4 (.slice A5 m c5)
              have hb9 := ((((hW7r.setCell (p := ⟨w.heap.size + 1, 0, none⟩) hg1 (.int .u8 (t.k))).setCell (p := ⟨w.heap.size + 1, 1, none⟩) hg1 (.int .i64 (t.n))).setCell (p := ⟨w.heap.size + 1, 2, none⟩) hg1 (.int .i64 (t.v))).setCell (p := ⟨w.heap.size + 1, 3, none⟩) hg1 (.int .u8 (t.c))).setCell (p := ⟨w.heap.size + 1, 4, none⟩) hg1 (.slice A5 m c5)
              generalize hW9 : ((((((wr).setCell ⟨w.heap.size + 1, 0, none⟩ (.int .u8 (t.k))).setCell ⟨w.heap.size + 1, 1, none⟩ (.int .i64 (t.n))).setCell ⟨w.heap.size + 1, 2, none⟩ (.int .i64 (t.v))).setCell ⟨w.heap.size + 1, 3, none⟩ (.int .u8 (t.c))).setCell ⟨w.heap.size + 1, 4, none⟩ (.slice A5 m c5)) = W9 at hs9 hb9 ⊢
              replace hs9 : Blk W9 (w.heap.size + 1) 27 #[.int .u8 (t.k), .int .i64 (t.n), .int .i64 (t.v), .int .u8 (t.c), .slice A5 m c5] := hs9
              have d0' : W9.cell? ⟨w.heap.size + 1, 0, none⟩ = some (.int .u8 (t.k)) := hs9.cell 0
              have d1' : W9.cell? ⟨w.heap.size + 1, 1, none⟩ = some (.int .i64 (t.n)) := hs9.cell 1
              have d2' : W9.cell? ⟨w.heap.size + 1, 2, none⟩ = some (.int .i64 (t.v)) := hs9.cell 2
              have d3' : W9.cell? ⟨w.heap.size + 1, 3, none⟩ = some (.int .u8 (t.c)) := hs9.cell 3
              have d4' : W9.cell? ⟨w.heap.size + 1, 4, none⟩ = some (.slice A5 m c5) := hs9.cell 4
              have hT9 : TysS W9 (fun b => b < Kb ∨ (w.heap.size ≤ b ∧ b < W9.heap.size)) A5 m c5 (t.l.map U) := by
                rw [← hW9]
                refine HT5.out.keep (fun b hb => ?_) fun p hp => ?_
                · rcases hb with hb | hb
                  · exact .inl hb
                  · exact .inr ⟨by omega, by simpa using hb.2⟩
                · have c1 : ∀ (W' : World) (o : Nat) (v : Value), (W'.setCell ⟨w.heap.size + 1, o, none⟩ v).cell? p = W'.cell? p := fun W' o v => World.cell?_setCell_other _ _ _ _ (fun e => by
                    have e1 : w.heap.size + 1 = p.block := by rw [← e]
                    rcases hp with hp | hp <;> omega)
                  rw [c1, c1, c1, c1, c1]
              exact bodyPost_ret (v := .agg #[.int .u8 t.k, .int .i64 t.n, .int .i64 (t.v), .int .u8 (t.c), .slice A5 m c5]) (by simp [results, Tryd.results35, go_sem, d0', d1', d2', d3', d4']) rfl (by rw [HR.out]; exact ⟨A5, m, c5, rfl, hT9, hb9⟩)
        · have d1 : (t.k == 1) = false := by simpa using h1
          have HR : Hid (turnT (putV types) (putM ms) t = .mk t.k t.n t.v t.c (t.l.map U)) := Lib.hid (by rw [turnT_eq, if_neg h1, if_neg (fun h => h7 h.1), if_neg (fun h => h7 h.1), HU.out])
          clear h1 hvn hvar h7
          have HOut : Hid (OutAt (W.alloc (Obj.cells #[.int .u8 t.k, .int .i64 t.n, .int .i64 (t.v), .int .u8 (t.c), .slice none 0 0] 27)) (w.heap.size + 1 + 1) (w.heap.size + 1 + 1 + 1) (fun b => Kb ≤ b ∧ b < w.heap.size + 1 + 1 + 1) t.k t.n (t.v) (t.c) [] none 0) := Lib.hid ⟨by rw [← hsz]; exact blk_new W _ _, OwnC.nil, ⟨by omega, by omega⟩, by omega⟩
          have Hbx := Lib.hid (below_box (w := W) (Obj.cells #[.int .u8 t.k, .int .i64 t.n, .int .i64 (t.v), .int .u8 (t.c), .slice none 0 0] 27))
          go_enter Tryd.func35, Tryd.ntmps35
          go_wp2_with fail
          rw [HW.out]
          obtain ⟨W7, hW7⟩ : ∃ W7, W.alloc (Obj.cells #[.int .u8 t.k, .int .i64 t.n, .int .i64 (t.v), .int .u8 (t.c), .slice none 0 0] 27) = W7 := ⟨_, rfl⟩
          rw [hW7] at HOut Hbx ⊢
          have hout := HOut.out
          have Hb7 := Lib.hid (Hb.out.trans (Hbx.out.mono Hb.out.size))
          have Hz7 := Lib.hid (Hz.out.below Hbx.out Hz.out.lt)
          have Hy7 := Lib.hid (Hy.out.below Hbx.out Hy.out.lt)
          clear hW7 HOut z0 z1 z2 z3 z4
          have HoutI : Hid (OutAt W7 (w.heap.size + 1 + 1) (w.heap.size + 1 + 1 + 1) (fun b => Kb ≤ b ∧ b < w.heap.size + 1 + 1 + 1) t.k t.n (t.v) (t.c) [] none 0) := Lib.hid hout
          clear hout
          go_loopg [8] m (fun gh i wr => ∃ (k : Nat) (A5 : Option Addr) (c5 : Nat), k ≤ m ∧ gh = m - k ∧ i = .int .i64 k ∧ OutAt wr (w.heap.size + 1 + 1) (w.heap.size + 1 + 1 + 1) (fun b => Kb ≤ b ∧ b < w.heap.size + 1 + 1 + 1) t.k t.n (t.v) (t.c) ((t.l.take k).map U) A5 c5 ∧ Below (w.heap.size + 1 + 1) W7 wr)
          case atStart => exact ⟨0, none, 0, Nat.zero_le _, rfl, rfl, HoutI.out, Below.refl _ _⟩
          case round =>
            obtain ⟨k, A5, c5, hk, rfl, rfl, hO, hbel⟩ := hrel
            have hW7r := Hb7.out.trans (hbel.mono hle2)
            have hzr := Hz7.out.below hbel hlt0
            have z4 := hzr.cell 4
            by_cases hkm : k < m
            · have d0 : decide (k < m) = true := by simpa using hkm
              have hk' : k < t.l.length := by omega
              have hlk : ((t.l.take k).map U).length = k := by rw [List.length_map, List.length_take]; omega
              obtain ⟨b, off, rfl, hb, hc⟩ := (HL.out.below hW7r).at_ (by omega)
              obtain ⟨e0, e1, e2, e3, Ax, mx, cx, e4, hx⟩ := tyAt_iff.1 (hc k hk')
              have hmx := mayT_kid HM.out hk'
              have hnx := HN.out k hk'
              have hst : (t.l.take (k + 1)).map U = (t.l.take k).map U ++ [U t.l[k]] := by rw [List.take_succ_eq_append_getElem hk', List.map_append]; rfl
              obtain ⟨x, hxk⟩ : ∃ x, t.l[k] = x := ⟨_, rfl⟩
              rw [hxk] at e0 e1 e2 e3 hx hmx hnx hst
              have hsr : w.heap.size + 1 + 1 + 1 ≤ wr.heap.size := by have := hO.1.lt; omega
              have h0w : Below w.heap.size w wr := hW7r
              have h0K : Below Kb w wr := hW7r.mono hK
              have hq := fun (W' : World) (h : Below wr.heap.size wr W') => Ih.out x hnx hmx Ax mx cx W' (((hx.more (by omega)).fresh h)) (HT.out.below (h0K.trans (h.mono (by omega)))) (by have := h.size; omega) ((HMs.out.fresh h0w).fresh h)
              obtain ⟨u, hu⟩ : ∃ u, U x = u := ⟨_, rfl⟩
              rw [hu] at hst
              simp only [hu] at hq
              obtain ⟨X, hX⟩ : ∃ X, (t.l.take k).map U = X := ⟨_, rfl⟩
              rw [hX] at hO hlk hst
              have x4 := hO.1.cell 4
              have hbr : b < wr.heap.size := by omega
              have HO := Lib.hid hO
              have Hq := Lib.hid hq
              have Hu := Lib.hid hu
              have Hst := Lib.hid hst
              have Hlk := Lib.hid hlk
              have Hbel := Lib.hid hbel
              have Hzr := Lib.hid hzr
              have k1 : (0 : Int) ≤ (k : Int) := by omega
              have k2 : (k : Int) < m := by omega
              clear hO hq hu hst hX hbel hzr hx hmx hnx hc hxk hW7r h0w h0K
              rw [hlk] at x4
              clear hlk
              go_wp2_with fail
              have hgs : w.heap.size + 1 + 1 < wr.heap.size := HO.out.1.lt
              have hps : w.heap.size < wr.heap.size := by omega
              have hbd : Below wr.heap.size wr wr.drew := Below.drew (Below.refl _ _)
              refine wp_region_noPanic ?_
              refine wp_region_T (fun w' => w'.cell? ⟨w.heap.size + 1 + 1, 4, none⟩ = some (.slice A5 k c5) ∧ w'.cell? ⟨w.heap.size, 4, none⟩ = some (.slice (some ⟨b, off, none⟩) m cp) ∧ w'.cell? ⟨b, off + k * 5, none⟩ = some (.int .u8 x.k) ∧ w'.cell? ⟨b, off + k * 5 + 1, none⟩ = some (.int .i64 x.n) ∧ w'.cell? ⟨b, off + k * 5 + 2, none⟩ = some (.int .i64 x.v) ∧ w'.cell? ⟨b, off + k * 5 + 3, none⟩ = some (.int .u8 x.c) ∧ w'.cell? ⟨b, off + k * 5 + 4, none⟩ = some (.slice Ax mx cx)) 12 (by kernel_rfl) ⟨x4, z4, e0, e1, e2, e3, e4⟩ (fun hHeld => ?_)
              refine wpAnyT_take (i := 0) (v := ?_) rfl (by kernel_rfl) (by kernel_rfl) (by kernel_rfl) (by kernel_rfl) (fun _ _ _ h => h) (Or.inl ⟨by rfl, ?_⟩) (by assumption) ?_
              rotate_left
              · (intro w hSw; (try dsimp only at hSw); first | (go_simp; done) | (go_simp; with_reducible rfl))
              try simp only [Act.put, List.getElem_toArray, List.getElem_cons_zero, List.getElem_cons_succ, List.setIfInBounds_toArray, List.set_cons_zero, List.set_cons_succ]
              refine wpAnyT_take (i := 1) (v := ?_) rfl (by kernel_rfl) (by kernel_rfl) (by kernel_rfl) (by kernel_rfl) (fun _ _ _ h => h) (Or.inl ⟨by rfl, ?_⟩) (by assumption) ?_
              rotate_left
              · (intro w hSw; (try dsimp only at hSw); first | (go_simp; done) | (go_simp; with_reducible rfl))
              try simp only [Act.put, List.getElem_toArray, List.getElem_cons_zero, List.getElem_cons_succ, List.setIfInBounds_toArray, List.set_cons_zero, List.set_cons_succ]
              refine wpAnyT_take (i := 2) (v := ?_) rfl (by kernel_rfl) (by kernel_rfl) (by kernel_rfl) (by kernel_rfl) (fun _ _ _ h => h) (Or.inl ⟨by rfl, ?_⟩) (by assumption) ?_
              rotate_left
              · (intro w hSw; (try dsimp only at hSw); first | (go_simp; done) | (go_simp; with_reducible rfl))
              try simp only [Act.put, List.getElem_toArray, List.getElem_cons_zero, List.getElem_cons_succ, List.setIfInBounds_toArray, List.set_cons_zero, List.set_cons_succ]
              refine wpAnyT_take (i := 3) (v := ?_) rfl (by kernel_rfl) (by kernel_rfl) (by kernel_rfl) (by kernel_rfl) (fun _ _ _ h => h) (Or.inl ⟨by rfl, ?_⟩) (by assumption) ?_
              rotate_left
              · (intro w hSw; (try dsimp only at hSw); first | (go_simp; done) | (go_simp; with_reducible rfl))
              try simp only [Act.put, List.getElem_toArray, List.getElem_cons_zero, List.getElem_cons_succ, List.setIfInBounds_toArray, List.set_cons_zero, List.set_cons_succ]
              refine wpAnyT_take (i := 4) (v := ?_) rfl (by kernel_rfl) (by kernel_rfl) (by kernel_rfl) (by kernel_rfl) (fun _ _ _ h => h) (Or.inl ⟨by rfl, ?_⟩) (by assumption) ?_
              rotate_left
              · (intro w hSw; (try dsimp only at hSw); first | (go_simp; done) | (go_simp; with_reducible rfl))
              try simp only [Act.put, List.getElem_toArray, List.getElem_cons_zero, List.getElem_cons_succ, List.setIfInBounds_toArray, List.set_cons_zero, List.set_cons_succ]
              refine wpAnyT_take (i := 5) (v := ?_) rfl (by kernel_rfl) (by kernel_rfl) (by kernel_rfl) (by kernel_rfl) (fun _ _ _ h => h) (Or.inl ⟨by rfl, ?_⟩) (by assumption) ?_
              rotate_left
              · (intro w hSw; (try dsimp only at hSw); first | (go_simp; done) | (go_simp; with_reducible rfl))
              try simp only [Act.put, List.getElem_toArray, List.getElem_cons_zero, List.getElem_cons_succ, List.setIfInBounds_toArray, List.set_cons_zero, List.set_cons_succ]
              refine wpAnyT_take (i := 6) (v := ?_) rfl (by kernel_rfl) (by kernel_rfl) (by kernel_rfl) (by kernel_rfl) (fun _ _ _ h => h) (Or.inl ⟨by rfl, ?_⟩) (by assumption) ?_
              rotate_left
              · (intro w hSw; (try dsimp only at hSw); first | (go_simp; done) | (go_simp; with_reducible rfl))
              try simp only [Act.put, List.getElem_toArray, List.getElem_cons_zero, List.getElem_cons_succ, List.setIfInBounds_toArray, List.set_cons_zero, List.set_cons_succ]
              refine wpAnyT_take (i := 7) (v := ?_) rfl (by kernel_rfl) (by kernel_rfl) (by kernel_rfl) (by kernel_rfl) (fun _ _ _ h => h) (Or.inl ⟨by rfl, ?_⟩) (by assumption) ?_
              rotate_left
              · (intro w hSw; (try dsimp only at hSw); first | (go_simp; done) | (go_simp; with_reducible rfl))
              try simp only [Act.put, List.getElem_toArray, List.getElem_cons_zero, List.getElem_cons_succ, List.setIfInBounds_toArray, List.set_cons_zero, List.set_cons_succ]
              refine wpAnyT_take (i := 8) (v := ?_) rfl (by kernel_rfl) (by kernel_rfl) (by kernel_rfl) (by kernel_rfl) (fun _ _ _ h => h) (Or.inl ⟨by rfl, ?_⟩) (by assumption) ?_
              rotate_left
              · (intro w hSw; (try dsimp only at hSw); first | (go_simp; done) | (go_simp; with_reducible rfl))
              try simp only [Act.put, List.getElem_toArray, List.getElem_cons_zero, List.getElem_cons_succ, List.setIfInBounds_toArray, List.set_cons_zero, List.set_cons_succ]
              refine wpAnyT_step (i := 9) (by kernel_rfl) rfl (fun K hK => ?_)
              (go_simp; refine (Hq.out _ hbd).mono ?_; rintro e w1 ⟨A7, m7, c7, rfl, h7, hb7⟩; have hb1 : Below wr.heap.size wr w1 := hbd.trans (hb7.mono hbd.size); have Hb1 := Lib.hid hb1; have H7 := Lib.hid h7; have hs1 := hb1.size; clear h7 hb7 hb1)
              refine hK.out _ _ ⟨(Hb1.out.cell (p := ⟨w.heap.size + 1 + 1, 4, none⟩) hgs).trans x4, (Hb1.out.cell (p := ⟨w.heap.size, 4, none⟩) hps).trans z4, (Hb1.out.cell (p := ⟨b, off + k * 5, none⟩) hbr).trans e0, (Hb1.out.cell (p := ⟨b, off + k * 5 + 1, none⟩) hbr).trans e1, (Hb1.out.cell (p := ⟨b, off + k * 5 + 2, none⟩) hbr).trans e2, (Hb1.out.cell (p := ⟨b, off + k * 5 + 3, none⟩) hbr).trans e3, (Hb1.out.cell (p := ⟨b, off + k * 5 + 4, none⟩) hbr).trans e4⟩ ?_
              clear hK K
              try simp only [Act.put, List.getElem_toArray, List.getElem_cons_zero, List.getElem_cons_succ, List.setIfInBounds_toArray, List.set_cons_zero, List.set_cons_succ]
              have y4 := (Hb1.out.cell (p := ⟨w.heap.size + 1 + 1, 4, none⟩) hgs).trans x4
              have t4 := (Hb1.out.cell (p := ⟨w.heap.size, 4, none⟩) hps).trans z4
              have g0 := (Hb1.out.cell (p := ⟨b, off + k * 5, none⟩) hbr).trans e0
              have g1 := (Hb1.out.cell (p := ⟨b, off + k * 5 + 1, none⟩) hbr).trans e1
              have g2 := (Hb1.out.cell (p := ⟨b, off + k * 5 + 2, none⟩) hbr).trans e2
              have g3 := (Hb1.out.cell (p := ⟨b, off + k * 5 + 3, none⟩) hbr).trans e3
              have g4 := (Hb1.out.cell (p := ⟨b, off + k * 5 + 4, none⟩) hbr).trans e4
              have hgs1 : w.heap.size + 1 + 1 < w1.heap.size := by omega
              have hps1 : w.heap.size < w1.heap.size := by omega
              have hbr1 : b < w1.heap.size := by omega
              clear x4 z4 e0 e1 e2 e3 e4
              refine wpAnyT_step (i := 9 + 1) (by kernel_rfl) rfl (fun K hK => ?_)
              go_simp
              refine hK.out _ _ ⟨(World.cell?_alloc_lt _ _ ⟨w.heap.size + 1 + 1, 4, none⟩ hgs1).trans y4, (World.cell?_alloc_lt _ _ ⟨w.heap.size, 4, none⟩ hps1).trans t4, (World.cell?_alloc_lt _ _ ⟨b, off + k * 5, none⟩ hbr1).trans g0, (World.cell?_alloc_lt _ _ ⟨b, off + k * 5 + 1, none⟩ hbr1).trans g1, (World.cell?_alloc_lt _ _ ⟨b, off + k * 5 + 2, none⟩ hbr1).trans g2, (World.cell?_alloc_lt _ _ ⟨b, off + k * 5 + 3, none⟩ hbr1).trans g3, (World.cell?_alloc_lt _ _ ⟨b, off + k * 5 + 4, none⟩ hbr1).trans g4⟩ ?_
              clear hK K
              try simp only [Act.put, List.getElem_toArray, List.getElem_cons_zero, List.getElem_cons_succ, List.setIfInBounds_toArray, List.set_cons_zero, List.set_cons_succ]
              have hs0 := HO.out.2.1.lt
              have hcV : CelsV w1 (fun b => b < w1.heap.size ∧ some b ≠ (Value.slice A5 X.length c5).ownBlock ∧ ¬ (Kb ≤ b ∧ b < w.heap.size + 1 + 1 + 1)) (encT u) [.int .u8 u.k, .int .i64 u.n, .int .i64 u.v, .int .u8 u.c, .slice A7 m7 c7] := tyC (H7.out.mono fun q hq => by
                rcases hq with hq | hq
                · refine ⟨by omega, fun e => ?_, by omega⟩
                  have := (hs0 q e.symm).1
                  omega
                · have hq1 : wr.heap.size ≤ q := hq.1
                  refine ⟨hq.2, fun e => ?_, by omega⟩
                  have := (hs0 q e.symm).2
                  omega)
              have hO1 := HO.out.2.1.beyond Hb1.out
              have hlk := Hlk.out
              rw [hlk] at hcV hO1
              have HcV := Lib.hid hcV
              have HO1 := Lib.hid hO1
              have HB1 := Lib.hid (Hbel.out.trans (Hb1.out.mono (by omega)))
              clear hcV hO1 hs0 H7
              refine wpAnyT_step (i := 9 + 2) (by kernel_rfl) rfl (fun K hK => ?_)
              (refine step_append_cel W7 w1 (by rfl) (.tmp 63) (.tmp 72) 25 (by rfl) (w.heap.size + 1 + 1 + 1) 27 i0 _ 5 56 Tryd.underlying25 hi0 hz0 hz1 hz2 rfl (by omega) (fun b => Kb ≤ b ∧ b < w.heap.size + 1 + 1 + 1) (.slice A5 k c5) k _ (by rfl) [.int .u8 u.k, .int .i64 u.n, .int .i64 u.v, .int .u8 u.c, .slice A7 m7 c7] (encT u) rfl (by intro u hu; simp at hu; rcases hu with rfl | rfl | rfl | rfl | rfl <;> rfl) (by rfl) HO1.out HcV.out (by unfold maxLen; have := mayT_len HM.out; omega) (by have := mayT_len HM.out; omega) HB1.out (by omega) (by omega) ?_; intro A8 c8 w8 ho8 hbel8 hg8 hsz8 _; have hgb : some (w.heap.size + 1 + 1) ≠ (Value.slice A5 k c5).ownBlock := (fun e => by have := (HO1.out.lt _ e.symm).1; omega); have hpb : some w.heap.size ≠ (Value.slice A5 k c5).ownBlock := (fun e => by have := (HO1.out.lt _ e.symm).1; omega); have hbb : some b ≠ (Value.slice A5 k c5).ownBlock := (fun e => by have := (HO1.out.lt _ e.symm).1; omega); have hcg : ∀ j, w8.cell? ⟨w.heap.size + 1 + 1, j, none⟩ = w1.cell? ⟨w.heap.size + 1 + 1, j, none⟩ := (fun j => World.cell?_of_block (hg8.block (w.heap.size + 1 + 1) hgs1 hgb)); have hcp : ∀ j, w8.cell? ⟨w.heap.size, j, none⟩ = w1.cell? ⟨w.heap.size, j, none⟩ := (fun j => World.cell?_of_block (hg8.block w.heap.size hps1 hpb)); have hcb : ∀ j, w8.cell? ⟨b, j, none⟩ = w1.cell? ⟨b, j, none⟩ := (fun j => World.cell?_of_block (hg8.block b hbr1 hbb)))
              refine hK.out _ _ ⟨(hcg _).trans y4, (hcp _).trans t4, (hcb _).trans g0, (hcb _).trans g1, (hcb _).trans g2, (hcb _).trans g3, (hcb _).trans g4⟩ ?_
              clear hK K
              try simp only [Act.put, List.getElem_toArray, List.getElem_cons_zero, List.getElem_cons_succ, List.setIfInBounds_toArray, List.set_cons_zero, List.set_cons_succ]
              have q4 := (hcg 4).trans y4
              have qf : w8.frozen? ⟨w.heap.size + 1 + 1, 4, none⟩ = false := ((HO.out.1.below Hb1.out HO.out.1.lt).grown hg8 hgb).frozen 4
              have Hpush : Hid (OutAt (w8.setCell ⟨w.heap.size + 1 + 1, 4, none⟩ (.slice A8 (k + 1) c8)) (w.heap.size + 1 + 1) (w.heap.size + 1 + 1 + 1) (fun b => Kb ≤ b ∧ b < w.heap.size + 1 + 1 + 1) t.k t.n (t.v) (t.c) ((t.l.take (k + 1)).map U) A8 c8) := by
                have h := OutAt.push (HO.out.below Hb1.out) (A6 := A8) (c6 := c8) (w' := w8) u
                rw [Hlk.out] at h
                rw [Hst.out]
                exact Lib.hid (h ho8 hg8)
              have Hb8 := Lib.hid (hbel8.setCell (p := ⟨w.heap.size + 1 + 1, 4, none⟩) (Nat.le_refl _) (.slice A8 (k + 1) c8))
              clear hcg hcp hcb hgb hpb hbb ho8 hbel8 hg8 y4 t4 g0 g1 g2 g3 g4
              refine wpAnyT_seq 12 (by omega) (by rfl) (by kernel_rfl) ?_
              simp only [List.drop_succ_cons, List.drop_zero]
              go_wp2_with fail
              refine NoPanic.normal ?_
              clear q4 qf
              go_wp2_with fail
              go_roundg (m - (k + 1))
              case measure => omega
              case rel => exact ⟨k + 1, A8, c8, by omega, rfl, by go_num, Hpush.out, Hb8.out⟩
            · have d0 : decide (k < m) = false := by simpa using hkm
              have hall : t.l.take k = t.l := List.take_of_length_le (by omega)
              rw [hall] at hO
              have hT := OutAt.done (s := w.heap.size + 1 + 1 + 1) hO (Nat.le_refl _) (by omega)
              have hlm : (t.l.map U).length = m := by rw [List.length_map]; exact hlen
              have hk5 := hO.1
              rw [hlm] at hk5 hT
              have x0 := hk5.cell 0
              have x1 := hk5.cell 1
              have x2 := hk5.cell 2
              have x3 := hk5.cell 3
              have x4 := hk5.cell 4
              have hyr := Hy7.out.below hbel (by omega)
              have s0 := hyr.frozen 0
              have s1 := hyr.frozen 1
              have s2 := hyr.frozen 2
              have s3 := hyr.frozen 3
              have s4 := hyr.frozen 4
              have r0 := hyr.cell 0
              have r1 := hyr.cell 1
              have r2 := hyr.cell 2
              have r3 := hyr.cell 3
              have r4 := hyr.cell 4
              have hg1 : w.heap.size ≤ w.heap.size + 1 := by omega
              have Hyr := Lib.hid hyr
              have HT5 := Lib.hid hT
              have HbF := Lib.hid hW7r
              clear hO hk5 hT hyr hall hlm hbel hzr hW7r
              go_wp2_with fail
              have hyr := Hyr.out
              have hW7r := HbF.out
              have hs9 := ((((hyr.set_ 0 (.int .u8 (t.k))).set_ 1 (.int .i64 (t.n))).set_ 2 (.int .i64 (t.v))).set_ 3 (.int .u8 (t.c))).set_ 4 (.slice A5 m c5)
              have hb9 := ((((hW7r.setCell (p := ⟨w.heap.size + 1, 0, none⟩) hg1 (.int .u8 (t.k))).setCell (p := ⟨w.heap.size + 1, 1, none⟩) hg1 (.int .i64 (t.n))).setCell (p := ⟨w.heap.size + 1, 2, none⟩) hg1 (.int .i64 (t.v))).setCell (p := ⟨w.heap.size + 1, 3, none⟩) hg1 (.int .u8 (t.c))).setCell (p := ⟨w.heap.size + 1, 4, none⟩) hg1 (.slice A5 m c5)
              generalize hW9 : ((((((wr).setCell ⟨w.heap.size + 1, 0, none⟩ (.int .u8 (t.k))).setCell ⟨w.heap.size + 1, 1, none⟩ (.int .i64 (t.n))).setCell ⟨w.heap.size + 1, 2, none⟩ (.int .i64 (t.v))).setCell ⟨w.heap.size + 1, 3, none⟩ (.int .u8 (t.c))).setCell ⟨w.heap.size + 1, 4, none⟩ (.slice A5 m c5)) = W9 at hs9 hb9 ⊢
              replace hs9 : Blk W9 (w.heap.size + 1) 27 #[.int .u8 (t.k), .int .i64 (t.n), .int .i64 (t.v), .int .u8 (t.c), .slice A5 m c5] := hs9
              have d0' : W9.cell? ⟨w.heap.size + 1, 0, none⟩ = some (.int .u8 (t.k)) := hs9.cell 0
              have d1' : W9.cell? ⟨w.heap.size + 1, 1, none⟩ = some (.int .i64 (t.n)) := hs9.cell 1
              have d2' : W9.cell? ⟨w.heap.size + 1, 2, none⟩ = some (.int .i64 (t.v)) := hs9.cell 2
              have d3' : W9.cell? ⟨w.heap.size + 1, 3, none⟩ = some (.int .u8 (t.c)) := hs9.cell 3
              have d4' : W9.cell? ⟨w.heap.size + 1, 4, none⟩ = some (.slice A5 m c5) := hs9.cell 4
              have hT9 : TysS W9 (fun b => b < Kb ∨ (w.heap.size ≤ b ∧ b < W9.heap.size)) A5 m c5 (t.l.map U) := by
                rw [← hW9]
                refine HT5.out.keep (fun b hb => ?_) fun p hp => ?_
                · rcases hb with hb | hb
                  · exact .inl hb
                  · exact .inr ⟨by omega, by simpa using hb.2⟩
                · have c1 : ∀ (W' : World) (o : Nat) (v : Value), (W'.setCell ⟨w.heap.size + 1, o, none⟩ v).cell? p = W'.cell? p := fun W' o v => World.cell?_setCell_other _ _ _ _ (fun e => by
                    have e1 : w.heap.size + 1 = p.block := by rw [← e]
                    rcases hp with hp | hp <;> omega)
                  rw [c1, c1, c1, c1, c1]
              exact bodyPost_ret (v := .agg #[.int .u8 t.k, .int .i64 t.n, .int .i64 (t.v), .int .u8 (t.c), .slice A5 m c5]) (by simp [results, Tryd.results35, go_sem, d0', d1', d2', d3', d4']) rfl (by rw [HR.out]; exact ⟨A5, m, c5, rfl, hT9, hb9⟩)
end Go.Proofs.YtidamlkekgnhgaaDoor

