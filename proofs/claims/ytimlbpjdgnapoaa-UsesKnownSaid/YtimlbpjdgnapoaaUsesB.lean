/- Contracts of uses.find and uses.of. -/
import Derived.Test.YtimlbpjdgnapoaaUsesA
namespace Go.Proofs.Ytimlbpjdgnapoaa
set_option linter.unusedVariables false
set_option linter.unusedSimpArgs false
open Go.RowKit

theorem wrap_zero {x v : Int} (hx : 0 ≤ x ∧ x < 1048576) (hv : -9223372036854775808 ≤ v ∧ v ≤ 9223372036854775807) : wrap64 (x - v) = 0 ↔ x = v := by
  rw [← IntWalk.i64_left, IntKind.wrap_i64]; omega
theorem wrap_near {x v : Int} (hx : 0 ≤ x ∧ x < 1048576) (hv : 0 ≤ v ∧ v < 1048576) : wrap64 (x - v) = x - v := by rw [← IntWalk.i64_left]; exact IntWalk.i64_in _ (by omega)

theorem find1_any (x : UseD) (v : Int) (A : Option Addr) (n c : Nat) (d : Int) (hd : wrap64 (x.v - v) = d) (w : World) :
    Calls Try.prog 87 #[.agg #[.int .i64 x.v, .bool x.t.never, .int .u8 x.t.c, .slice A n c], .int .i64 v] w fun e w' => e = .returned (.int .i64 d) ∧ Below w.heap.size w w' := by
  have hX := blk_new w #[.int .i64 x.v, .bool x.t.never, .int .u8 x.t.c, .slice A n c] 41
  have hb := below_box (w := w) (Obj.cells #[.int .i64 x.v, .bool x.t.never, .int .u8 x.t.c, .slice A n c] 41)
  have x0 : (w.alloc (Obj.cells #[.int .i64 x.v, .bool x.t.never, .int .u8 x.t.c, .slice A n c] 41)).cell? ⟨w.heap.size, 0, none⟩ = some (.int .i64 x.v) := hX.cell 0
  have Hd := Lib.hid hd
  clear hd
  go_enter Try.func87, Try.ntmps87
  go_wp2_with fail
  go_ret
  exact ⟨ret_int Hd.out, hb⟩

/-- the variables rise, and are ones -/
structure RiseU (xs : List UseD) : Prop where
  rng : ∀ x ∈ xs, 0 ≤ x.v ∧ x.v < 1048576
  up : ∀ (i j : Nat) (h : i < j) (hj : j < xs.length), xs[i].v < xs[j].v
theorem mayFrom_rise : ∀ (p : Int) (xs : List UseD), mayFrom p xs = true → (∀ x ∈ xs, p < x.v ∧ 0 ≤ x.v ∧ x.v < 1048576 ∧ x.t.never = false ∧ mayB x.t = true) ∧ ∀ (i j : Nat) (h : i < j) (hj : j < xs.length), xs[i].v < xs[j].v
  | p, [], _ => ⟨fun x hx => absurd hx (by simp), fun i j h hj => absurd hj (by simp)⟩
  | p, x :: r, h => by
    unfold mayFrom mayS at h
    simp only [Bool.and_eq_true, decide_eq_true_eq, Bool.not_eq_true'] at h
    obtain ⟨⟨⟨⟨⟨h1, h2⟩, h3⟩, h4⟩, h5⟩, h6⟩ := h
    obtain ⟨k1, k2⟩ := mayFrom_rise x.v r h6
    refine ⟨fun y hy => ?_, fun i j hij hj => ?_⟩
    · rcases List.mem_cons.1 hy with rfl | hy
      · exact ⟨h3, h1, h2, h4, h5⟩
      · obtain ⟨q1, q2⟩ := k1 y hy
        exact ⟨by omega, q2⟩
    · match i, j, hij, hj with
      | 0, j + 1, _, hj =>
        have hj' : j < r.length := by simpa using hj
        exact (k1 _ (List.getElem_mem hj')).1
      | i + 1, j + 1, hij, hj => exact k2 i j (by omega) (by simpa using hj)
theorem mayU_rise {xs : List UseD} (h : mayU xs = true) : RiseU xs := ⟨fun x hx => by have := (mayFrom_rise _ _ h).1 x hx; exact ⟨this.2.1, this.2.2.1⟩, (mayFrom_rise _ _ h).2⟩

def FindPost (xs : List UseD) (v : Int) (w : World) (e : Ending) (w' : World) : Prop :=
  ∃ (i : Nat) (b : Bool), e = .returned (.tuple #[.int .i64 i, .bool b]) ∧ (b = true → ∃ h : i < xs.length, xs[i].v = v) ∧ (b = false → ∀ x ∈ xs, x.v ≠ v) ∧ Below w.heap.size w w'

set_option maxRecDepth 100000 in
set_option maxHeartbeats 2000000 in
theorem search_any (v : Int) (A : Option Addr) (n c : Nat) (xs : List UseD) (w : World) (hx : UsesV w w.heap.size A n c xs) (hr : RiseU xs) (hv : -9223372036854775808 ≤ v ∧ v ≤ 9223372036854775807) (hn : n ≤ 1048576) :
    Calls Try.prog 86 #[.slice A n c, .int .i64 v, .func (.func 87) #[] #[]] w (FindPost xs v w) := by
  have hxl := hx.len
  have n63 : n ≤ 9223372036854775807 := Nat.le_trans hx.2.1 hx.2.2.1
  have Hx := Lib.hid hx
  have Hr := Lib.hid hr
  have Hv := Lib.hid hv
  clear hx hr hv
  go_enter Try.func86, Try.ntmps86
  go_wp2_with fail
  go_loopg [9, 10] n (fun gh vi vj wr => ∃ (i j : Nat), vi = .int .i64 (i : Nat) ∧ vj = .int .i64 (j : Nat) ∧ gh = j - i ∧ i ≤ j ∧ j ≤ n ∧ (0 ≤ v → v < 1048576 → (∀ (k : Nat) (h : k < xs.length), k < i → xs[k].v < v) ∧ (∀ (k : Nat) (h : k < xs.length), j ≤ k → v ≤ xs[k].v)) ∧ Below w.heap.size w wr)
  case atStart => exact ⟨0, n, rfl, rfl, rfl, Nat.zero_le _, Nat.le_refl _, fun _ _ => ⟨fun k _ h => absurd h (by omega), fun k h h' => absurd h (by omega)⟩, Below.refl _ _⟩
  case round =>
    obtain ⟨i, j, rfl, rfl, rfl, hij, hjn, hin, hbel⟩ := hrel
    have Hin := Lib.hid hin
    have Hbel := Lib.hid hbel
    by_cases hlt : i < j
    · obtain ⟨b, o, q, hb, hc⟩ := (Hx.out.below hbel).at_ (by omega)
      subst q
      have hh : (i + j) / 2 < xs.length := by omega
      obtain ⟨e0, Ax, nx, cx, e1, e2, e3, _⟩ := hc ((i + j) / 2) hh
      obtain ⟨x, hxh⟩ : ∃ x, xs[(i + j) / 2] = x := ⟨_, rfl⟩
      rw [hxh] at e0 e1 e2
      obtain ⟨d, hd⟩ : ∃ d, wrap64 (x.v - v) = d := ⟨_, rfl⟩
      have Hxh := Lib.hid hxh
      have Hd := Lib.hid hd
      have Hxr := Lib.hid (Hr.out.rng x (by rw [← hxh]; exact List.getElem_mem hh))
      clear hc hin hbel hxh hd
      by_cases hd0 : d < 0
      · have f1 : decide (d < 0) = true := by simp; omega
        have Hd0 := Lib.hid hd0
        clear hd0
        go_wp2_with fail
        refine (find1_any x v Ax nx cx d Hd.out wr).mono ?_
        rintro e w1 ⟨rfl, hb1⟩
        have Hb1 := Lib.hid (Hbel.out.trans (hb1.mono Hbel.out.size))
        clear hb1
        go_wp2_with fail
        go_roundg (j - ((i + j) / 2 + 1))
        case measure => omega
        case rel =>
          refine ⟨(i + j) / 2 + 1, j, by simp, rfl, rfl, by omega, hjn, fun v0 v1 => ⟨fun k h hk => ?_, (Hin.out v0 v1).2⟩, Hb1.out⟩
          have q1 : x.v < v := by
            have := Hd.out
            rw [wrap_near Hxr.out ⟨v0, v1⟩] at this
            have := Hd0.out
            omega
          rcases Nat.lt_or_ge k ((i + j) / 2) with h' | h'
          · have := Hr.out.up k ((i + j) / 2) h' hh
            rw [Hxh.out] at this
            omega
          · have : k = (i + j) / 2 := by omega
            subst this
            rw [Hxh.out]; exact q1
      · have f1 : decide (d < 0) = false := by simp; omega
        have Hd0 := Lib.hid hd0
        clear hd0
        go_wp2_with fail
        refine (find1_any x v Ax nx cx d Hd.out wr).mono ?_
        rintro e w1 ⟨rfl, hb1⟩
        have Hb1 := Lib.hid (Hbel.out.trans (hb1.mono Hbel.out.size))
        clear hb1
        go_wp2_with fail
        go_roundg ((i + j) / 2 - i)
        case measure => omega
        case rel =>
          refine ⟨i, (i + j) / 2, rfl, by simp, rfl, by omega, by omega, fun v0 v1 => ⟨(Hin.out v0 v1).1, fun k h hk => ?_⟩, Hb1.out⟩
          have q1 : v ≤ x.v := by
            have := Hd.out
            rw [wrap_near Hxr.out ⟨v0, v1⟩] at this
            have := Hd0.out
            omega
          rcases Nat.lt_or_ge ((i + j) / 2) k with h' | h'
          · have := Hr.out.up ((i + j) / 2) k h' h
            rw [Hxh.out] at this
            omega
          · have : k = (i + j) / 2 := by omega
            subst this
            rw [Hxh.out]; exact q1
    · have hij' : i = j := by omega
      subst hij'
      by_cases hin2 : i < n
      · obtain ⟨b, o, q, hb, hc⟩ := (Hx.out.below hbel).at_ (by omega)
        subst q
        have hh : i < xs.length := by omega
        obtain ⟨e0, Ax, nx, cx, e1, e2, e3, _⟩ := hc i hh
        obtain ⟨x, hxh⟩ : ∃ x, xs[i] = x := ⟨_, rfl⟩
        rw [hxh] at e0 e1 e2
        obtain ⟨d, hd⟩ : ∃ d, wrap64 (x.v - v) = d := ⟨_, rfl⟩
        have hxr := Hr.out.rng x (by rw [← hxh]; exact List.getElem_mem hh)
        have hz := wrap_zero hxr Hv.out
        rw [hd] at hz
        have HP : Hid (∀ w', Below w.heap.size w w' → FindPost xs v w (.returned (.tuple #[.int .i64 (i : Nat), .bool (d == 0)])) w') := Lib.hid fun w' hb' => by
          refine ⟨i, d == 0, rfl, fun h => ⟨hh, ?_⟩, fun h y hy => ?_, hb'⟩
          · rw [hxh]; exact hz.1 (by simpa using h)
          · have hne : x.v ≠ v := fun q => by have := hz.2 q; rw [this] at h; simp at h
            intro hyv
            obtain ⟨k, hk, rfl⟩ := List.getElem_of_mem hy
            have hyr := Hr.out.rng _ hy
            obtain ⟨q1, q2⟩ := hin (by omega) (by omega)
            rcases Nat.lt_trichotomy k i with q | q | q
            · have := q1 k hk q; omega
            · subst q; rw [hxh] at hyv; exact hne hyv
            · have := Hr.out.up i k q hk
              rw [hxh] at this
              have := q2 i hh (Nat.le_refl _)
              rw [hxh] at this
              omega
        have Hd := Lib.hid hd
        have i1 : (0 : Int) ≤ (i : Int) := by omega
        have i2 : (i : Int) < n := by omega
        clear hc hin hbel hxh hd hz hxr
        go_wp2_with fail
        refine (find1_any x v Ax nx cx d Hd.out wr).mono ?_
        rintro e w1 ⟨rfl, hb1⟩
        have Hb1 := Lib.hid (Hbel.out.trans (hb1.mono Hbel.out.size))
        clear hb1
        go_wp2_with fail
        exact bodyPost_ret (v := .tuple #[.int .i64 (i : Nat), .bool (d == 0)]) (by simp [results, Try.results86, go_sem]) rfl (HP.out _ Hb1.out)
      · have HP : Hid (FindPost xs v w (.returned (.tuple #[.int .i64 (i : Nat), .bool false])) wr) := Lib.hid (by
          refine ⟨i, false, rfl, fun h => Bool.noConfusion h, fun h y hy hyv => ?_, hbel⟩
          obtain ⟨k, hk, rfl⟩ := List.getElem_of_mem hy
          have hyr := Hr.out.rng _ hy
          obtain ⟨q1, q2⟩ := hin (by omega) (by omega)
          have := q1 k hk (by omega)
          omega)
        clear hin hbel
        go_wp2_with fail
        exact bodyPost_ret (v := .tuple #[.int .i64 (i : Nat), .bool false]) (by simp [results, Try.results86, go_sem]) rfl HP.out

theorem find_any (v : Int) (A : Option Addr) (n c : Nat) (xs : List UseD) (w : World) (hx : UsesV w w.heap.size A n c xs) (hr : RiseU xs) (hv : -9223372036854775808 ≤ v ∧ v ≤ 9223372036854775807) (hn : n ≤ 1048576) :
    Calls Try.prog 76 #[.slice A n c, .int .i64 v] w (FindPost xs v w) := by
  have hs := search_any v A n c xs w hx hr hv hn
  have Hs := Lib.hid hs
  clear hs hx hr
  go_enter Try.func76, Try.ntmps76
  go_wp2_with fail
  refine Hs.out.mono ?_
  rintro e w1 ⟨i, b, rfl, h1, h2, hb⟩
  have HP : Hid (FindPost xs v w (.returned (.tuple #[.int .i64 (i : Nat), .bool b])) w1) := Lib.hid ⟨i, b, rfl, h1, h2, hb⟩
  clear h1 h2 hb
  go_wp2_with fail
  exact bodyPost_ret (v := .tuple #[.int .i64 (i : Nat), .bool b]) (by simp [results, Try.results76, go_sem]) rfl HP.out

/-- the use of a variable -/
def ofU (xs : List UseD) (v : Int) : TermD := match xs.find? (fun x => x.v == v) with
  | some x => x.t
  | none => ⟨true, 0, []⟩
theorem ofU_some {xs : List UseD} {v : Int} (hr : RiseU xs) {i : Nat} (h : i < xs.length) (hv : xs[i].v = v) : ofU xs v = xs[i].t := by
  have : xs.find? (fun x => x.v == v) = some xs[i] := by
    rw [List.find?_eq_some_iff_getElem]
    refine ⟨by simp [hv], i, h, rfl, fun j hj => ?_⟩
    have := hr.up j i hj h
    simp only [Bool.not_eq_true', beq_eq_false_iff_ne, ne_eq]
    omega
  unfold ofU
  rw [this]
theorem ofU_none {xs : List UseD} {v : Int} (h : ∀ x ∈ xs, x.v ≠ v) : ofU xs v = ⟨true, 0, []⟩ := by
  have : xs.find? (fun x => x.v == v) = none := by
    rw [List.find?_eq_none]
    intro x hx
    simp [h x hx]
  unfold ofU
  rw [this]

theorem ofU_any (v : Int) (A : Option Addr) (n c : Nat) (xs : List UseD) (w : World) (hx : UsesV w w.heap.size A n c xs) (hr : RiseU xs) (hv : -9223372036854775808 ≤ v ∧ v ≤ 9223372036854775807) (hn : n ≤ 1048576) :
    Calls Try.prog 50 #[.slice A n c, .int .i64 v] w (RetT (ofU xs v) w) := by
  have hxl := hx.len
  have n63 : n ≤ 9223372036854775807 := by omega
  have hb0 := below_box (w := w) (Obj.cells #[.bool false, .int .u8 0, .slice none 0 0] 37)
  have hk0 := blk_new w #[.bool false, .int .u8 0, .slice none 0 0] 37
  have hs := find_any v A n c xs (w.alloc (Obj.cells #[.bool false, .int .u8 0, .slice none 0 0] 37)) ((hx.below hb0).more hb0.size) hr hv hn
  have Hs := Lib.hid hs
  have Hb0 := Lib.hid hb0
  have Hk0 := Lib.hid hk0
  have Hx := Lib.hid hx
  have Hr := Lib.hid hr
  clear hs hb0 hk0 hx hr
  go_enter Try.func50, Try.ntmps50
  go_wp2_with fail
  refine Hs.out.mono ?_
  rintro e w1 ⟨i, b, rfl, h1, h2, hb⟩
  have hk1 := Hk0.out.below hb Hk0.out.lt
  have hb1 := Hb0.out.trans (hb.mono Hb0.out.size)
  have f0 := hk1.frozen 0
  have f1 := hk1.frozen 1
  have f2 := hk1.frozen 2
  have c0 : w1.cell? ⟨w.heap.size, 0, none⟩ = some (.bool false) := hk1.cell 0
  have c1 : w1.cell? ⟨w.heap.size, 1, none⟩ = some (.int .u8 0) := hk1.cell 1
  have c2 : w1.cell? ⟨w.heap.size, 2, none⟩ = some (.slice none 0 0) := hk1.cell 2
  have Hk1 := Lib.hid hk1
  have Hb1 := Lib.hid hb1
  cases b with
  | true =>
    obtain ⟨hil, hiv⟩ := h1 rfl
    have hof := ofU_some Hr.out hil hiv
    obtain ⟨bb, oo, q, hbb, hc⟩ := (Hx.out.below hb1).at_ (by omega)
    subst q
    obtain ⟨_, Ax, nx, cx, e1, e2, e3, hrx⟩ := hc i hil
    obtain ⟨⟨xv, nv, tc, vs⟩, hx⟩ : ∃ x, xs[i] = x := ⟨_, rfl⟩
    rw [hx] at e1 e2 hrx hof
    dsimp only at e1 e2 hrx hof
    have Hof := Lib.hid hof
    replace e2 : w1.cell? ⟨bb, oo + i * 4 + 2, none⟩ = some (.int .u8 tc) := e2
    replace e3 : w1.cell? ⟨bb, oo + i * 4 + 3, none⟩ = some (.slice Ax nx cx) := e3
    have i1 : (0 : Int) ≤ (i : Int) := by omega
    have i2 : (i : Int) < n := by omega
    have Hrx := Lib.hid (hrx.more hb1.size)
    clear hc hrx h1 h2 hb hof hx hiv hk1 hb1
    go_wp2_with fail
    rw [Hof.out]
    have hs := Hk1.out.set3 (.bool nv) (.int .u8 tc) (.slice Ax nx cx)
    have hb3 := ((Hb1.out.setCell (p := ⟨w.heap.size, 0, none⟩) (Nat.le_refl _) (.bool nv)).setCell (p := ⟨w.heap.size, 1, none⟩) (Nat.le_refl _) (.int .u8 tc)).setCell (p := ⟨w.heap.size, 2, none⟩) (Nat.le_refl _) (.slice Ax nx cx)
    have hr9 := (Hrx.out.put3 Hk1.out (.bool nv) (.int .u8 tc) (.slice Ax nx cx)).more (B' := (((w1.setCell ⟨w.heap.size, 0, none⟩ (.bool nv)).setCell ⟨w.heap.size, 1, none⟩ (.int .u8 tc)).setCell ⟨w.heap.size, 2, none⟩ (.slice Ax nx cx)).heap.size) (by simp)
    generalize (((w1.setCell ⟨w.heap.size, 0, none⟩ (.bool nv)).setCell ⟨w.heap.size, 1, none⟩ (.int .u8 tc)).setCell ⟨w.heap.size, 2, none⟩ (.slice Ax nx cx)) = W3 at hs hb3 hr9 ⊢
    have d0 : W3.cell? ⟨w.heap.size, 0, none⟩ = some (.bool nv) := hs.cell 0
    have d1 : W3.cell? ⟨w.heap.size, 1, none⟩ = some (.int .u8 tc) := hs.cell 1
    have d2 : W3.cell? ⟨w.heap.size, 2, none⟩ = some (.slice Ax nx cx) := hs.cell 2
    exact bodyPost_ret (v := .agg #[.bool nv, .int .u8 tc, .slice Ax nx cx]) (by simp [results, Try.results50, go_sem, d0, d1, d2]) rfl ⟨_, _, _, rfl, hr9, hb3⟩
  | false =>
    have Hof := Lib.hid (ofU_none (h2 rfl))
    have Hrx : Hid (RdI .i64 w1 w1.heap.size none 0 0 []) := Lib.hid RdI.nil
    clear h1 h2 hb hk1 hb1
    go_wp2_with fail
    rw [Hof.out]
    have hs := Hk1.out.set3 (.bool true) (.int .u8 0) (.slice none 0 0)
    have hb3 := ((Hb1.out.setCell (p := ⟨w.heap.size, 0, none⟩) (Nat.le_refl _) (.bool true)).setCell (p := ⟨w.heap.size, 1, none⟩) (Nat.le_refl _) (.int .u8 0)).setCell (p := ⟨w.heap.size, 2, none⟩) (Nat.le_refl _) (.slice none 0 0)
    have hr9 := (Hrx.out.put3 Hk1.out (.bool true) (.int .u8 0) (.slice none 0 0)).more (B' := (((w1.setCell ⟨w.heap.size, 0, none⟩ (.bool true)).setCell ⟨w.heap.size, 1, none⟩ (.int .u8 0)).setCell ⟨w.heap.size, 2, none⟩ (.slice none 0 0)).heap.size) (by simp)
    generalize (((w1.setCell ⟨w.heap.size, 0, none⟩ (.bool true)).setCell ⟨w.heap.size, 1, none⟩ (.int .u8 0)).setCell ⟨w.heap.size, 2, none⟩ (.slice none 0 0)) = W3 at hs hb3 hr9 ⊢
    have d0 : W3.cell? ⟨w.heap.size, 0, none⟩ = some (.bool true) := hs.cell 0
    have d1 : W3.cell? ⟨w.heap.size, 1, none⟩ = some (.int .u8 0) := hs.cell 1
    have d2 : W3.cell? ⟨w.heap.size, 2, none⟩ = some (.slice none 0 0) := hs.cell 2
    exact bodyPost_ret (v := .agg #[.bool true, .int .u8 0, .slice none 0 0]) (by simp [results, Try.results50, go_sem, d0, d1, d2]) rfl ⟨_, _, _, rfl, hr9, hb3⟩

end Go.Proofs.Ytimlbpjdgnapoaa
