/- uses.Take, At, Vars, Of. -/
import Derived.Test.YtimlbpjdgnapoaaUsesH
import Derived.Test.YtimlbpjdgnapoaaTermJ
namespace Go.Proofs.Ytimlbpjdgnapoaa
set_option linter.unusedVariables false
set_option linter.unusedSimpArgs false
open Go.RowKit

/-- the call returns uses -/
def RetU (xs : List UseD) (w : World) (e : Ending) (w' : World) : Prop :=
  ∃ A n c, e = .returned (.slice A n c) ∧ UsesV w' w'.heap.size A n c xs ∧ Below w.heap.size w w'
/-- the call returns a term, uses and the error x -/
def RetTU (t : TermD) (xs : List UseD) (x : Int) (w : World) (e : Ending) (w' : World) : Prop :=
  ∃ A n c A' n' c', e = .returned (.tuple #[.agg #[.bool t.never, .int .u8 t.c, .slice A n c], .slice A' n' c', .int .i64 x]) ∧ RdI .i64 w' w'.heap.size A n c t.vars ∧ UsesV w' w'.heap.size A' n' c' xs ∧ Below w.heap.size w w'

/-- uses do not lie in a block that holds a term -/
theorem UsesV.put3 {w : World} {B : Nat} {A : Option Addr} {n c : Nat} {xs : List UseD} {g : Nat} {t : TypeId} {x : Bool} {y : Int} {a : Option Addr} {m d : Nat}
    (h : UsesV w B A n c xs) (hs : Blk w g t #[.bool x, .int .u8 y, .slice a m d]) (v0 v1 v2 : Value) :
    UsesV (((w.setCell ⟨g, 0, none⟩ v0).setCell ⟨g, 1, none⟩ v1).setCell ⟨g, 2, none⟩ v2) B A n c xs := by
  obtain ⟨h1, h2, h3, h4⟩ := h
  refine ⟨h1, h2, h3, fun hn => ?_⟩
  obtain ⟨b, off, e, hb, hc⟩ := h4 hn
  have hne : b ≠ g := by
    rintro rfl
    have := (hc 0 (by omega)).1
    rw [hs.cell] at this
    generalize off + 0 * 4 = k at this
    match k, this with
    | 0, this => simp at this
    | 1, this => simp at this
    | 2, this => simp at this
    | k + 3, this => simp at this
  refine ⟨b, off, e, hb, fun i hi => ?_⟩
  obtain ⟨e0, A', n', c', e1, e2, e3, hr⟩ := hc i hi
  exact ⟨(set3_other w _ hne _ _ _).trans e0, A', n', c', (set3_other w _ hne _ _ _).trans e1, (set3_other w _ hne _ _ _).trans e2, (set3_other w _ hne _ _ _).trans e3, hr.put3 hs _ _ _⟩

theorem filter_ne (xs : List UseD) (v : Int) : (xs.filter fun t => !(t.v == v)) = xs.filter fun t => t.v != v := rfl

set_option maxHeartbeats 1000000 in
theorem take_no (v : Int) (A : Option Addr) (n c : Nat) (xs : List UseD) (w : World) (hx : UsesV w w.heap.size A n c xs) (hm : mayU xs = false) :
    Calls Try.prog 17 #[.slice A n c, .int .i64 v] w (RetTU ⟨false, 0, []⟩ [] 2 w) := by
  have hb0 : Below w.heap.size w ((w.alloc (Obj.cells #[.int .i64 v] 3)).alloc (Obj.cells #[.bool false, .int .u8 0, .slice none 0 0] 37)) := ((Below.refl _ _).alloc (Nat.le_refl _) _).alloc (by simp) _
  have hz := blk_new (w.alloc (Obj.cells #[.int .i64 v] 3)) #[.bool false, .int .u8 0, .slice none 0 0] 37
  rw [World.size_alloc] at hz
  have hq := usesMay_any A n c xs _ ((hx.below hb0).more hb0.size)
  rw [mayUE_no hm] at hq
  have Hq := Lib.hid hq
  have Hb0 := Lib.hid hb0
  have Hz := Lib.hid hz
  clear hq hx hm hb0 hz
  go_enter Try.func17, Try.ntmps17
  go_wp2_with fail
  refine Hq.out.mono ?_; rintro e w1 ⟨rfl, hb1⟩
  have hz1 := Hz.out.below hb1 Hz.out.lt
  have hbel := Hb0.out.trans (hb1.mono Hb0.out.size)
  have z0 : w1.cell? ⟨w.heap.size + 1, 0, none⟩ = some (.bool false) := hz1.cell 0
  have z1 : w1.cell? ⟨w.heap.size + 1, 1, none⟩ = some (.int .u8 0) := hz1.cell 1
  have z2 : w1.cell? ⟨w.heap.size + 1, 2, none⟩ = some (.slice none 0 0) := hz1.cell 2
  have f0 := hz1.frozen 0
  have f1 := hz1.frozen 1
  have f2 := hz1.frozen 2
  go_wp2_with fail
  have hs := hz1.set3 (.bool false) (.int .u8 0) (.slice none 0 0)
  have hb3 := ((hbel.setCell (p := ⟨w.heap.size + 1, 0, none⟩) (Nat.le_succ _) (.bool false)).setCell (p := ⟨w.heap.size + 1, 1, none⟩) (Nat.le_succ _) (.int .u8 0)).setCell (p := ⟨w.heap.size + 1, 2, none⟩) (Nat.le_succ _) (.slice none 0 0)
  generalize (((w1.setCell ⟨w.heap.size + 1, 0, none⟩ (.bool false)).setCell ⟨w.heap.size + 1, 1, none⟩ (.int .u8 0)).setCell ⟨w.heap.size + 1, 2, none⟩ (.slice none 0 0)) = W3 at hs hb3 ⊢
  have d0 : W3.cell? ⟨w.heap.size + 1, 0, none⟩ = some (.bool false) := hs.cell 0
  have d1 : W3.cell? ⟨w.heap.size + 1, 1, none⟩ = some (.int .u8 0) := hs.cell 1
  have d2 : W3.cell? ⟨w.heap.size + 1, 2, none⟩ = some (.slice none 0 0) := hs.cell 2
  exact bodyPost_ret (v := .tuple #[.agg #[.bool false, .int .u8 0, .slice none 0 0], .slice none 0 0, .int .i64 2]) (by simp [results, Try.results17, go_sem, d0, d1, d2]) rfl ⟨none, 0, 0, none, 0, 0, rfl, RdI.nil, UsesV.nil, hb3⟩

set_option maxHeartbeats 2000000 in
theorem take_yes (v : Int) (A : Option Addr) (n c : Nat) (xs : List UseD) (w : World) (hx : UsesV w w.heap.size A n c xs) (hm : mayU xs = true) (hv : -9223372036854775808 ≤ v ∧ v ≤ 9223372036854775807) :
    Calls Try.prog 17 #[.slice A n c, .int .i64 v] w (RetTU (ofU xs v) (xs.filter fun t => t.v != v) 0 w) := by
  have hb0 : Below w.heap.size w ((w.alloc (Obj.cells #[.int .i64 v] 3)).alloc (Obj.cells #[.bool false, .int .u8 0, .slice none 0 0] 37)) := ((Below.refl _ _).alloc (Nat.le_refl _) _).alloc (by simp) _
  have hz := blk_new (w.alloc (Obj.cells #[.int .i64 v] 3)) #[.bool false, .int .u8 0, .slice none 0 0] 37
  rw [World.size_alloc] at hz
  have hi := (blk_new w #[.int .i64 v] 3).alloc (Obj.cells #[.bool false, .int .u8 0, .slice none 0 0] 37)
  have hq := usesMay_any A n c xs _ ((hx.below hb0).more hb0.size)
  rw [mayUE_yes hm] at hq
  have hri := mayU_rise hm
  have hn : n ≤ 1048576 := by rw [← hx.len]; exact (mayU_rises hm).2
  have Hq := Lib.hid hq
  have Hb0 := Lib.hid hb0
  have Hz := Lib.hid hz
  have Hi := Lib.hid hi
  have Hx := Lib.hid hx
  have Hri := Lib.hid hri
  clear hq hx hb0 hz hi hri
  go_enter Try.func17, Try.ntmps17
  go_wp2_with fail
  refine Hq.out.mono ?_; rintro e w1 ⟨rfl, hb1⟩
  have hz1 := Hz.out.below hb1 Hz.out.lt
  have hi1 := Hi.out.below hb1 Hi.out.lt
  have hbel := Hb0.out.trans (hb1.mono Hb0.out.size)
  have i1 : w1.cell? ⟨w.heap.size, 0, none⟩ = some (.int .i64 v) := hi1.cell 0
  have hof := ofU_low w.heap.size v A n c xs w1 (Hx.out.below hbel) hbel.size Hri.out hv hn
  have Hof := Lib.hid hof
  have Hz1 := Lib.hid hz1
  have Hi1 := Lib.hid hi1
  have Hbel := Lib.hid hbel
  clear hof hz1 hi1 hbel hb1 Hb0 Hq
  go_wp2_with fail
  refine Hof.out.mono ?_; rintro e w2 ⟨A2, n2, c2, rfl, hr2, hb2⟩
  obtain ⟨T, hT⟩ : ∃ T, ofU xs v = T := ⟨_, rfl⟩
  rw [hT] at hr2 ⊢
  have HT := Lib.hid hT
  clear hT
  have hbel2 := Hbel.out.trans (hb2.mono Hbel.out.size)
  have hz2 := Hz1.out.below hb2 Hz1.out.lt
  have hi2 := Hi1.out.below hb2 Hi1.out.lt
  have hcl := cloneU_any A n c xs w2 ((Hx.out.below hbel2).more hbel2.size) (by omega)
  have Hcl := Lib.hid hcl
  have Hr2 := Lib.hid hr2
  have Hz2 := Lib.hid hz2
  have Hi2 := Lib.hid hi2
  have Hbel2 := Lib.hid hbel2
  clear hcl hr2 hz2 hi2 hbel2 hb2 i1
  go_wp2_with fail
  refine Hcl.out.mono ?_; rintro e w3 ⟨v1, rfl, hown, hform, hb3⟩
  have hi3 := Hi2.out.below hb3 Hi2.out.lt
  have hdel := deleteU_any v w.heap.size w2.heap.size w2.heap.size n v1 xs w3 hown (Nat.le_refl _) hb3.size (hi3.cell 0) Hi2.out.lt hform
  have Hdel := Lib.hid hdel
  have Hb3 := Lib.hid hb3
  clear hdel hown hform hi3 hb3
  go_wp2_with fail
  refine Hdel.out.mono ?_; rintro e w4 ⟨v2, m, rfl, hf4, hown4, hb4⟩
  have hb24 : Below w2.heap.size w2 w4 := Hb3.out.trans hb4
  have hz4 := Hz2.out.below hb24 Hz2.out.lt
  have hbel4 := Hbel2.out.trans (hb24.mono Hbel2.out.size)
  have hr4 := Hr2.out.below (hb24.mono Hbel2.out.size)
  obtain ⟨A4, c4, rfl⟩ : ∃ A4 c4, v2 = .slice A4 m c4 := by
    obtain ⟨_, cs, ho, _⟩ := hown4
    exact ownsRow_form ho
  have hu4 := (hown4.uses (by have := hb24.size; omega)).2
  rw [filter_ne] at hu4
  have z0 : w4.cell? ⟨w.heap.size + 1, 0, none⟩ = some (.bool false) := hz4.cell 0
  have z1 : w4.cell? ⟨w.heap.size + 1, 1, none⟩ = some (.int .u8 0) := hz4.cell 1
  have z2 : w4.cell? ⟨w.heap.size + 1, 2, none⟩ = some (.slice none 0 0) := hz4.cell 2
  have f0 := hz4.frozen 0
  have f1 := hz4.frozen 1
  have f2 := hz4.frozen 2
  have Hr4 := Lib.hid hr4
  have Hu4 := Lib.hid hu4
  clear hr4 hu4 hown4 hf4 Hdel hb4
  go_wp2_with fail
  have hs := hz4.set3 (.bool T.never) (.int .u8 T.c) (.slice A2 n2 c2)
  have hb3 := ((hbel4.setCell (p := ⟨w.heap.size + 1, 0, none⟩) (Nat.le_succ _) (.bool T.never)).setCell (p := ⟨w.heap.size + 1, 1, none⟩) (Nat.le_succ _) (.int .u8 T.c)).setCell (p := ⟨w.heap.size + 1, 2, none⟩) (Nat.le_succ _) (.slice A2 n2 c2)
  have hr9 := (Hr4.out.put3 hz4 (.bool T.never) (.int .u8 T.c) (.slice A2 n2 c2)).more (B' := (((w4.setCell ⟨w.heap.size + 1, 0, none⟩ (.bool T.never)).setCell ⟨w.heap.size + 1, 1, none⟩ (.int .u8 T.c)).setCell ⟨w.heap.size + 1, 2, none⟩ (.slice A2 n2 c2)).heap.size) (by simpa using hbel4.size)
  have hu9 := (Hu4.out.put3 hz4 (.bool T.never) (.int .u8 T.c) (.slice A2 n2 c2)).more (B' := (((w4.setCell ⟨w.heap.size + 1, 0, none⟩ (.bool T.never)).setCell ⟨w.heap.size + 1, 1, none⟩ (.int .u8 T.c)).setCell ⟨w.heap.size + 1, 2, none⟩ (.slice A2 n2 c2)).heap.size) (by simp)
  generalize (((w4.setCell ⟨w.heap.size + 1, 0, none⟩ (.bool T.never)).setCell ⟨w.heap.size + 1, 1, none⟩ (.int .u8 T.c)).setCell ⟨w.heap.size + 1, 2, none⟩ (.slice A2 n2 c2)) = W3 at hs hb3 hr9 hu9 ⊢
  have d0 : W3.cell? ⟨w.heap.size + 1, 0, none⟩ = some (.bool T.never) := hs.cell 0
  have d1 : W3.cell? ⟨w.heap.size + 1, 1, none⟩ = some (.int .u8 T.c) := hs.cell 1
  have d2 : W3.cell? ⟨w.heap.size + 1, 2, none⟩ = some (.slice A2 n2 c2) := hs.cell 2
  exact bodyPost_ret (v := .tuple #[.agg #[.bool T.never, .int .u8 T.c, .slice A2 n2 c2], .slice A4 m c4, .int .i64 0]) (by simp [results, Try.results17, go_sem, d0, d1, d2]) rfl (by rw [HT.out]; exact ⟨A2, n2, c2, A4, m, c4, rfl, hr9, hu9, hb3⟩)

/-- the use of a variable under an assignment -/
def atU (xs : List UseD) (v : Int) (asg : List Int) : Int × Int := if mayU xs then atR (ofU xs v) asg else (0, 2)
set_option maxHeartbeats 1000000 in
theorem atU_any (v : Int) (A : Option Addr) (n c : Nat) (xs : List UseD) (A' : Option Addr) (n' c' : Nat) (asg : List Int) (w : World) (hx : UsesV w w.heap.size A n c xs) (ha : RdI .u8 w w.heap.size A' n' c' asg) (hv : -9223372036854775808 ≤ v ∧ v ≤ 9223372036854775807) :
    Calls Try.prog 35 #[.slice A n c, .int .i64 v, .slice A' n' c'] w fun e w' => e = .returned (.tuple #[.int .u8 (atU xs v asg).1, .int .i64 (atU xs v asg).2]) ∧ Below w.heap.size w w' := by
  have hq := usesMay_any A n c xs w hx
  cases hm : mayU xs with
  | false =>
    rw [mayUE_no hm] at hq
    have hj : atU xs v asg = (0, 2) := by unfold atU; rw [if_neg (by simp [hm])]
    have Hj := Lib.hid hj
    have Hq := Lib.hid hq
    clear hq hj hx ha hm
    go_enter Try.func35, Try.ntmps35
    go_wp2_with fail
    refine Hq.out.mono ?_; rintro e w1 ⟨rfl, hb1⟩
    go_wp2_with fail
    go_ret2
    exact ⟨by rw [Hj.out]; rfl, hb1⟩
  | true =>
    rw [mayUE_yes hm] at hq
    have hj : atU xs v asg = atR (ofU xs v) asg := by unfold atU; rw [if_pos hm]
    have hn : n ≤ 1048576 := by rw [← hx.len]; exact (mayU_rises hm).2
    have hri := mayU_rise hm
    have Hj := Lib.hid hj
    have Hq := Lib.hid hq
    have Hx := Lib.hid hx
    have Ha := Lib.hid ha
    have Hri := Lib.hid hri
    clear hq hj hx ha hri
    go_enter Try.func35, Try.ntmps35
    go_wp2_with fail
    refine Hq.out.mono ?_; rintro e w1 ⟨rfl, hb1⟩
    have hof := ofU_low w.heap.size v A n c xs w1 (Hx.out.below hb1) hb1.size Hri.out hv hn
    have Hof := Lib.hid hof
    have Hb1 := Lib.hid hb1
    clear hof hb1 Hq
    go_wp2_with fail
    refine Hof.out.mono ?_; rintro e w2 ⟨A2, n2, c2, rfl, hr2, hb2⟩
    have hbel := Hb1.out.trans (hb2.mono Hb1.out.size)
    have hat := at_any (.agg #[.bool (ofU xs v).never, .int .u8 (ofU xs v).c, .slice A2 n2 c2]) (ofU xs v) A' n' c' asg w2 w.heap.size w.heap.size ⟨A2, n2, c2, rfl, hr2⟩ hbel.size (Ha.out.below hbel) hbel.size
    rw [← Hj.out] at hat
    have Hat := Lib.hid hat
    clear hat hr2 Hof hb2
    go_wp2_with fail
    refine Hat.out.mono ?_; rintro e w3 ⟨rfl, hb3⟩
    have hbel3 := hbel.trans (hb3.mono hbel.size)
    go_wp2_with fail
    go_ret2
    exact ⟨rfl, hbel3⟩

/-- all variables of multiplicities that stand in uses -/
def allVs (l : List UseD) : List Int := l.flatMap fun x => x.t.vars
theorem allVs_snoc (l : List UseD) (x : UseD) : allVs (l ++ [x]) = allVs l ++ x.t.vars := by simp [allVs]
theorem allVs_take_le (l : List UseD) (k : Nat) : (allVs (l.take k)).length ≤ (allVs l).length := by
  have : (allVs l).length = (allVs (l.take k)).length + (allVs (l.drop k)).length := by
    conv => lhs; rw [← List.take_append_drop k l]
    simp only [allVs, List.flatMap_append, List.length_append]
  omega
set_option maxHeartbeats 2000000 in
theorem vars_any (A : Option Addr) (n c : Nat) (xs : List UseD) (w : World) (hx : UsesV w w.heap.size A n c xs) (hV : (allVs xs).length ≤ 1099511627776) :
    Calls Try.prog 32 #[.slice A n c] w (RetI .i64 (sset (allVs xs)) w) := by
  have hxl := hx.len
  have n63 : n ≤ 9223372036854775807 := Nat.le_trans hx.2.1 hx.2.2.1
  have Hx := Lib.hid hx
  obtain ⟨i0, hi0, hz0, hz1, hz2⟩ := info_parts (show (Try.prog.info? 3).map (fun i => (i.zero, i.size, i.bytes)) = some (some (.int .i64 0), 1, 8) from by kernel_rfl)
  clear hx
  go_enter Try.func32, Try.ntmps32
  go_wp2_with fail
  go_loopg [3, 8] n (fun gh vs i wr => ∃ (k m : Nat), k ≤ n ∧ gh = n - k ∧ i = .int .i64 k ∧ m = (allVs (xs.take k)).length ∧ wr.ownsRow w.heap.size 3 1 vs m ((allVs (xs.take k)).map (Value.int .i64)) ∧ Below w.heap.size w wr)
  case atStart => exact ⟨0, 0, Nat.zero_le _, rfl, rfl, rfl, World.ownsRow_nil _ _ _ _, Below.refl _ _⟩
  case round =>
    obtain ⟨k, m, hk, rfl, rfl, hm, ho, hbel⟩ := hrel
    by_cases hkn : k < n
    · obtain ⟨b, o, q, hb, hc⟩ := (Hx.out.below hbel).at_ (by omega)
      subst q
      have hk' : k < xs.length := by omega
      obtain ⟨e0, Ax, nx, cx, e1, e2, e3, hrx⟩ := hc k hk'
      have hstep : xs.take (k + 1) = xs.take k ++ [xs[k]] := List.take_succ_eq_append_getElem hk'
      have hle := allVs_take_le xs (k + 1)
      obtain ⟨x, hxk⟩ : ∃ x, xs[k] = x := ⟨_, rfl⟩
      rw [hxk] at e0 e1 e2 hrx hstep
      rw [hstep, allVs_snoc, List.length_append, ← hm, hrx.len] at hle
      replace e2 : wr.cell? ⟨b, o + k * 4 + 2, none⟩ = some (.int .u8 x.t.c) := e2
      replace e3 : wr.cell? ⟨b, o + k * 4 + 3, none⟩ = some (.slice Ax nx cx) := e3
      have k1 : (0 : Int) ≤ (k : Int) := by omega
      have k2 : (k : Int) < n := by omega
      have hbx := hbel.alloc hbel.size (Obj.cells #[.int .i64 x.v, .bool x.t.never, .int .u8 x.t.c, .slice Ax nx cx] 41)
      have hox := ho.alloc (Obj.cells #[.int .i64 x.v, .bool x.t.never, .int .u8 x.t.c, .slice Ax nx cx] 41)
      have hrx2 := hrx.below (w' := wr.alloc (Obj.cells #[.int .i64 x.v, .bool x.t.never, .int .u8 x.t.c, .slice Ax nx cx] 41)) ((Below.refl _ _).alloc hbel.size _)
      obtain ⟨A1, c1, rfl⟩ := ownsRow_form ho
      have Hm := Lib.hid hm
      have Hst := Lib.hid hstep
      have Hbx := Lib.hid hbx
      have Hox := Lib.hid hox
      have Hrx := Lib.hid hrx2
      clear hc hrx hrx2 hbx hox ho hbel hstep hxk hm
      go_wp2_with (at_builtin; go_must (refine wpList_append_rd (wr.alloc (Obj.cells #[.int .i64 x.v, .bool x.t.never, .int .u8 x.t.c, .slice Ax nx cx] 41)) rfl (.tmp 12) (.tmp 15) 35 rfl w.heap.size 3 i0 _ 1 8 Try.underlying35 hi0 hz0 hz1 hz2 rfl (by omega) (.slice A1 m c1) m _ rfl Hox.out w.heap.size Ax nx cx (x.t.vars.map (Value.int .i64)) rfl Hrx.out.1 (by intro u hu; obtain ⟨y, _, rfl⟩ := List.mem_map.1 hu; rfl) (by unfold maxLen; omega) (by omega) Hbx.out.size ?_); intro v2 w2 ho2 hg2 hat2)
      go_roundg (n - (k + 1))
      case measure => omega
      case rel =>
        refine ⟨k + 1, m + nx, by omega, rfl, by go_num, ?_, ?_, Hbx.out.grown hg2 Hbx.out.size (fun j hj => (Hox.out.lt _ hj).1)⟩
        · rw [Hst.out, allVs_snoc, List.length_append, ← Hm.out, Hrx.out.len]
        · rw [Hst.out, allVs_snoc, List.map_append]; exact ho2
    · have hkn' : k = n := by omega
      subst hkn'
      rw [List.take_of_length_le (by omega)] at ho hm
      subst hm
      have hs := sort0_any w.heap.size _ _ w wr ho (by omega) hbel hbel.size
      have Hs := Lib.hid hs
      clear hs ho hbel
      go_wp2_with fail
      refine Hs.out.mono ?_; rintro e w2 ⟨rfl, ho2, hbel2, hz2'⟩
      have hls : ((allVs xs).mergeSort fun x y => decide (x ≤ y)).length = (allVs xs).length := List.length_mergeSort _
      rw [← hls] at ho2
      have hs := compact0_any w.heap.size _ _ w w2 ho2 hbel2
      have Hs := Lib.hid hs
      clear hs ho2 hbel2 hls
      go_wp2_with fail
      refine Hs.out.mono ?_; rintro e w3 ⟨A3, c3, rfl, ho3, hbel3, hz3⟩
      have HR := Lib.hid (RdI.of_own ho3)
      clear ho3
      go_wp2_with fail
      go_ret
      exact ⟨A3, _, c3, rfl, HR.out, hbel3⟩

def ofV (v : Int) : List UseD := if 0 ≤ v ∧ v < 1048576 then [⟨v, ⟨false, 1, []⟩⟩] else []
theorem useOf_any (v : Int) (w : World) : Calls Try.prog 19 #[.int .i64 v] w (RetU (ofV v) w) := by
  by_cases h0 : 0 ≤ v
  · by_cases h1 : v < 1048576
    · have d0 : decide (v < 0) = false := by simp; omega
      have d1 : decide (v ≥ 1048576) = false := by simp; omega
      have hq := of_any_t 1 w
      have he : ofT 1 = ⟨false, 1, []⟩ := by
        have h1 : leastI 1 = 1 := by decide
        simp [ofT, h1]
      rw [he] at hq
      have Hq := Lib.hid hq
      have hj : ofV v = [⟨v, ⟨false, 1, []⟩⟩] := by unfold ofV; rw [if_pos ⟨h0, h1⟩]
      rw [hj]
      clear hq hj h0 h1
      go_enter Try.func19, Try.ntmps19
      go_wp2_with fail
      refine Hq.out.mono ?_; rintro e w1 ⟨A1, n1, c1, rfl, hr1, hb1⟩
      go_wp2_with fail
      go_ret
      have hbx := below_box (w := w1) (Obj.cells #[.int .i64 v, .bool false, .int .u8 1, .slice A1 n1 c1] 41)
      have hX := blk_new w1 #[.int .i64 v, .bool false, .int .u8 1, .slice A1 n1 c1] 41
      refine ⟨_, 1, 1, rfl, ⟨rfl, Nat.le_refl _, by unfold maxLen; omega, fun _ => ⟨w1.heap.size, 0, rfl, by simp, fun i hi => ?_⟩⟩, hb1.trans (hbx.mono hb1.size)⟩
      have hi0 : i = 0 := by simpa using hi
      subst hi0
      exact ⟨hX.cell 0, A1, n1, c1, hX.cell 1, hX.cell 2, hX.cell 3, (hr1.below hbx).more hbx.size⟩
    · have d0 : decide (v < 0) = false := by simp; omega
      have d1 : decide (v ≥ 1048576) = true := by simp; omega
      have hj : ofV v = [] := by unfold ofV; rw [if_neg (fun h => h1 h.2)]
      rw [hj]
      clear hj h0 h1
      go_enter Try.func19, Try.ntmps19
      go_wp2_with fail
      go_ret
      exact ⟨none, 0, 0, rfl, UsesV.nil, Below.refl _ _⟩
  · have d0 : decide (v < 0) = true := by simp; omega
    have hj : ofV v = [] := by unfold ofV; rw [if_neg (fun h => h0 h.1)]
    rw [hj]
    clear hj h0
    go_enter Try.func19, Try.ntmps19
    go_wp2_with fail
    go_ret
    exact ⟨none, 0, 0, rfl, UsesV.nil, Below.refl _ _⟩

end Go.Proofs.Ytimlbpjdgnapoaa
