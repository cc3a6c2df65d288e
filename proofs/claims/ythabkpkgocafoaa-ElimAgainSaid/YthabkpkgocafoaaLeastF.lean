/- The contract of (*least.solver).core. -/
import Derived.Test.YthabkpkgocafoaaEaB
import Derived.Test.YthabkpkgocafoaaOrd
import Derived.Test.YthabkpkgocafoaaSortI
import Derived.Deep.RegionHeld3
namespace Go.Proofs.Ythabkpkgocafoaa
set_option linter.unusedVariables false
set_option linter.unusedSimpArgs false
open Go.RowKit

theorem chain_len {xs : List IneqD} {low is why : List Int} (h : EndL xs low is why) (hlow3 : ∀ v, v < low.length → low.getD v 0 ≤ 3) {i : Nat} {x : IneqD} (hi : xs[i]? = some x) (hr : x.r < 0) (hc : x.c < leftL is x) {l : List Nat} (hl : ChainL xs low why x x.c l) : (i :: l).length ≤ xs.length := by
  obtain ⟨h1, h2, _⟩ := h.core hlow3 hi hr hc hl
  have := nodup_len ((i :: l).map (fun u : Nat => (u : Int))) ((List.range xs.length).map (fun u : Nat => (u : Int))) (List.Pairwise.map _ (fun a b hab e => hab (by omega)) h1) (fun z hz => by
    obtain ⟨u, hu, rfl⟩ := List.mem_map.1 hz
    exact List.mem_map.2 ⟨u, List.mem_range.2 (h2 u hu), rfl⟩)
  simpa using this
theorem EndL.chain0 {xs : List IneqD} {low is why : List Int} (h : EndL xs low is why) {x : IneqD} (hm : x ∈ xs) (hc : x.c < leftL is x) : ∃ l, ChainL xs low why x x.c l := by
  obtain ⟨rank, T, hT, hW⟩ := h.inv.rk
  exact h.chain hW (T + 1) x x.c (h.over x hm) hc (fun _ => Nat.lt_succ_of_le (hT _))

def set4 (w : World) (b : Nat) (y : IneqD) : World := (((w.setCell ⟨b, 0, none⟩ (.int .i64 y.lv)).setCell ⟨b, 1, none⟩ (.int .u8 y.lc)).setCell ⟨b, 2, none⟩ (.int .u8 y.c)).setCell ⟨b, 3, none⟩ (.int .i64 y.r)
theorem box_set4 {w : World} {b : Nat} {t : TypeId} {a0 a1 a2 a3 : Value} (h : Blk w b t #[a0, a1, a2, a3]) (y : IneqD) : Blk (set4 w b y) b t #[.int .i64 y.lv, .int .u8 y.lc, .int .u8 y.c, .int .i64 y.r] :=
  (((h.set_ 0 _).set_ 1 _).set_ 2 _).set_ 3 _
theorem heap_set4 (w : World) (b c : Nat) (y : IneqD) (h : b ≠ c) : (set4 w b y).heap[c]? = w.heap[c]? := by
  unfold set4
  rw [Below.heap_setCell _ _ _ _ h.symm, Below.heap_setCell _ _ _ _ h.symm, Below.heap_setCell _ _ _ _ h.symm, Below.heap_setCell _ _ _ _ h.symm]
theorem below_set4 {w w' : World} {B b : Nat} {y : IneqD} (h : Below B w w') (hb : B ≤ b) : Below B w (set4 w' b y) :=
  ⟨h.os, h.tape, h.output, by unfold set4; rw [World.size_setCell, World.size_setCell, World.size_setCell, World.size_setCell]; exact h.size, fun k hk => (heap_set4 _ _ _ _ (by omega)).trans (h.block k hk)⟩

def natI (l : List Nat) : List Int := l.map fun u : Nat => (u : Int)
theorem natI_len (l : List Nat) : (natI l).length = l.length := by simp [natI]
theorem natI_add (l : List Nat) (k : Nat) : natI (l ++ [k]) = natI l ++ [(k : Int)] := by simp [natI]

set_option maxRecDepth 100000 in
set_option maxHeartbeats 4000000 in
theorem core_any (g Y n cw cy nl cl : Nat) (Al Aw : Option Addr) (xs : List IneqD) (low is why : List Int) (i : Nat) (x : IneqD) (w : World)
    (x0 : w.cell? ⟨g, 0, none⟩ = some (.slice Al nl cl)) (x1 : w.cell? ⟨g, 1, none⟩ = some (.slice Aw n cw)) (x3 : w.cell? ⟨g, 3, none⟩ = some (.slice (some ⟨Y, 0, none⟩) n cy)) (hx : IneqsV w w.heap.size Al nl cl xs)
    (hlw : RdI .u8 w w.heap.size Aw n cw low) (hY : RowC w Y 3 .i64 why) (hg : g < w.heap.size) (hnl : nl ≤ 1099511627776)
    (hE : EndL xs low is why) (hlow3 : ∀ v, v < low.length → low.getD v 0 ≤ 3) (hi : xs[i]? = some x) (hr : x.r < 0) (hc : x.c < leftL is x) :
    Calls Try.prog 46 #[.pointer (some ⟨g, 0, none⟩), .int .i64 i] w fun e w' => ∃ A m c l, e = .returned (.slice A m c) ∧ ChainL xs low why x x.c l ∧ RdI .i64 w' w'.heap.size A m c ((natI (i :: l)).mergeSort fun a b => decide (a ≤ b)) ∧ Below w.heap.size w w' := by
  have hmx := @run_max2 Try.prog
  obtain ⟨l, hch⟩ := hE.chain0 (List.mem_of_getElem? hi) hc
  have hlen := chain_len hE hlow3 hi hr hc hch
  have hll := hlw.len
  have hxl := hx.len
  have hil : i < xs.length := (List.getElem?_eq_some_iff.1 hi).1
  obtain ⟨bl, offl, hAl, hbl, hcl⟩ := hx.at_ (by omega)
  subst hAl
  obtain ⟨e0, e1, e2, e3⟩ := hcl i hil
  rw [(List.getElem?_eq_some_iff.1 hi).2] at e0 e1 e2 e3
  have i1 : (0 : Int) ≤ (i : Int) := by omega
  have i2 : (i : Int) < nl := by omega
  have nl63 : nl ≤ 9223372036854775807 := by omega
  go_enter Try.func46, Try.ntmps46
  go_wp2_with fail
  have Hx0 := Lib.hid x0
  have Hx1 := Lib.hid x1
  have Hx3 := Lib.hid x3
  have Hx := Lib.hid hx
  have Hlw := Lib.hid hlw
  have HY := Lib.hid hY
  have HE := Lib.hid hE
  have Hch := Lib.hid hch
  have hxi := hE.over x (List.mem_of_getElem? hi)
  have HO := Lib.hid hxi
  have hOv : ∀ (k : Nat) (y : IneqD), xs[k]? = some y → OverL low.length y := fun k y hy => hE.over y (List.mem_of_getElem? hy)
  have HOv := Lib.hid hOv
  clear x0 x1 x3 hx hlw hY hE hxi hOv hlow3 hcl
  go_loopg [5, 6, 7] l.length (fun gh vo vov vb wr => ∃ (l1 l2 : List Nat) (y : IneqD) (over : Int) (b cc : Nat) (A : Option Addr), l = l1 ++ l2 ∧ gh = l2.length ∧ vo = .slice A (l1.length + 1) cc ∧ vov = .int .u8 over ∧ vb = .pointer (some ⟨b, 0, none⟩) ∧ Blk wr b 31 #[.int .i64 y.lv, .int .u8 y.lc, .int .u8 y.c, .int .i64 y.r] ∧ wr.ownsRow w.heap.size 3 1 (.slice A (l1.length + 1) cc) (l1.length + 1) ((natI (i :: l1)).map (Value.int .i64)) ∧ (Value.slice A (l1.length + 1) cc).ownBlock ≠ some b ∧ w.heap.size ≤ b ∧ Below w.heap.size w wr ∧ ChainL xs low why y over l2 ∧ OverL low.length y)
  case atStart =>
    refine ⟨[], l, x, x.c, w.heap.size + 1, 1, _, rfl, rfl, rfl, rfl, rfl, ?_, ?_, ?_, Nat.le_succ _, ?_, Hch.out, HO.out⟩
    · have := blk_new (w.alloc (.cells #[.int .i64 (i : Int)] 3)) #[.int .i64 x.lv, .int .u8 x.lc, .int .u8 x.c, .int .i64 x.r] 31
      simpa using this
    · refine ⟨rfl, Or.inr ⟨w.heap.size, 1, _, rfl, Nat.le_refl _, (Below.heap_alloc _ _ _ (by simp)).trans (heap_alloc_new w _), Nat.le_refl _, by unfold maxLen; omega, rfl, rfl⟩⟩
    · simp [Value.ownBlock]
    · exact ((Below.refl _ _).alloc (Nat.le_refl _) _).alloc (by simp) _
  case round =>
    obtain ⟨l1, l2, y, over, b, cc, A, hl, rfl, rfl, rfl, rfl, hbk, hown, hne, hb0, hbel, hcy, hoy⟩ := hrel
    have hbl1 := hbk.lt
    have y0 : wr.cell? ⟨b, 0, none⟩ = some (.int .i64 y.lv) := hbk.cell 0
    have y1 : wr.cell? ⟨b, 1, none⟩ = some (.int .u8 y.lc) := hbk.cell 1
    have y2 : wr.cell? ⟨b, 2, none⟩ = some (.int .u8 y.c) := hbk.cell 2
    have y3 : wr.cell? ⟨b, 3, none⟩ = some (.int .i64 y.r) := hbk.cell 3
    have x0 : wr.cell? ⟨g, 0, none⟩ = some (.slice (some ⟨bl, offl, none⟩) nl cl) := (hbel.cell (p := ⟨g, 0, none⟩) hg).trans Hx0.out
    have x1 : wr.cell? ⟨g, 1, none⟩ = some (.slice Aw n cw) := (hbel.cell (p := ⟨g, 1, none⟩) hg).trans Hx1.out
    have x3 : wr.cell? ⟨g, 3, none⟩ = some (.slice (some ⟨Y, 0, none⟩) n cy) := (hbel.cell (p := ⟨g, 3, none⟩) hg).trans Hx3.out
    have hlw := Hlw.out.below hbel
    have hY := HY.out.below hbel HY.out.lt
    cases hcy with
    | stop _ _ hh =>
      rw [List.append_nil] at hl
      subst hl
      have hs : ∀ q, Calls Try.prog 66 #[.slice A (l.length + 1) cc] (wr.drewN q) fun e w' => e = .returned (.tuple #[]) ∧ RdI .i64 w' w'.heap.size A (l.length + 1) cc ((natI (i :: l)).mergeSort fun a b => decide (a ≤ b)) ∧ Below w.heap.size w w' := fun q => by
        refine (sortI_any w.heap.size (.slice A (l.length + 1) cc) (natI (i :: l)) (wr.drewN q) (by rw [natI_len]; exact hown) (by simp [natI]) (by rw [natI_len]; have := hlen; simp at this ⊢; omega)).mono ?_
        rintro e w5 ⟨rfl, ho5, hg5⟩
        rw [natI_len] at ho5
        exact ⟨rfl, RdI.of_own ho5, (below_drewN_t hbel q).grown hg5 hbel.size (fun k hk => (ownsRow_lt hown hk).1)⟩
      have Hs := Lib.hid hs
      clear hs
      have Hbel := Lib.hid hbel
      by_cases h0 : y.lc = 0
      · have d0 : (y.lc == 0) = true := by simp [h0]
        obtain ⟨v0, v1⟩ := hoy.lv h0
        obtain ⟨yv, ylc, yc, yr⟩ := y
        dsimp only at h0 v0 v1 y0 y1 y2 y3 d0 hh
        subst h0
        obtain ⟨lv, rfl⟩ : ∃ m : Nat, yv = (m : Int) := ⟨yv.toNat, (Int.toNat_of_nonneg v0).symm⟩
        rw [Int.toNat_natCast] at hh
        obtain ⟨ba, oa, hAw, hba, hca⟩ := hlw.at_ (by omega)
        subst hAw
        have hlvl : lv < low.length := by omega
        have a0 := hca lv hlvl
        have hgd : low.getD lv 0 = low[lv] := by simp [List.getD, hlvl]
        rw [hgd] at hh
        have d1 : decide (low[lv] ≤ over) = false := by simpa using hh
        have j1 : (0 : Int) ≤ (lv : Int) := by omega
        have j2 : (lv : Int) < n := by omega
        have n63 : n ≤ 9223372036854775807 := Nat.le_trans hlw.2.1 hlw.2.2
        clear hh hgd
        generalize low[lv] = LL at a0 d1
        clear hca hlw hY hown hoy hbel
        go_wp2_with fail
        go_quiet (fail)
        go_wp2_with fail
        refine (Hs.out _).mono ?_
        rintro e w5 ⟨rfl, hr5, hb5⟩
        go_wp2_with fail
        go_ret
        exact ⟨A, _, cc, l, rfl, Hch.out, hr5, hb5⟩
      · have d0 : (y.lc == 0) = false := by simp [h0]
        clear hlw hY hown hoy hbel hh
        go_wp2_with fail
        go_quiet (fail)
        go_wp2_with fail
        refine (Hs.out _).mono ?_
        rintro e w5 ⟨rfl, hr5, hb5⟩
        go_wp2_with fail
        go_ret
        exact ⟨A, _, cc, l, rfl, Hch.out, hr5, hb5⟩
    | step _ z _ k l2 h0 h1 hk hz ht =>
      have d0 : (y.lc == 0) = true := by simp [h0]
      obtain ⟨v0, v1⟩ := hoy.lv h0
      obtain ⟨yv, ylc, yc, yr⟩ := y
      dsimp only at h0 v0 v1 y0 y1 y2 y3 d0 h1 hk hbk
      subst h0
      obtain ⟨lv, rfl⟩ : ∃ m : Nat, yv = (m : Int) := ⟨yv.toNat, (Int.toNat_of_nonneg v0).symm⟩
      rw [Int.toNat_natCast] at h1 hk
      obtain ⟨ba, oa, hAw, hba, hca⟩ := hlw.at_ (by omega)
      subst hAw
      have hlvl : lv < low.length := by omega
      have a0 := hca lv hlvl
      have hgd : low.getD lv 0 = low[lv] := by simp [List.getD, hlvl]
      rw [hgd] at h1
      have d1 : decide (low[lv] ≤ over) = true := by simpa using h1
      have j1 : (0 : Int) ≤ (lv : Int) := by omega
      have j2 : (lv : Int) < n := by omega
      have n63 : n ≤ 9223372036854775807 := Nat.le_trans hlw.2.1 hlw.2.2
      clear h1 hgd
      generalize low[lv] = LL at a0 d1
      have hwl := HE.out.inv.wl
      have hlw2 : lv < why.length := by omega
      have b0 := hY.cell lv hlw2
      have hkk : why[lv] = (k : Int) := by simpa [List.getD, hlw2] using hk
      rw [hkk] at b0
      have hkx : k < xs.length := (List.getElem?_eq_some_iff.1 hz).1
      obtain ⟨_, _, q, _, hcl2⟩ := (Hx.out.below hbel).at_ (by omega)
      cases q
      obtain ⟨z0, z1, z2, z3⟩ := hcl2 k hkx
      rw [(List.getElem?_eq_some_iff.1 hz).2] at z0 z1 z2 z3
      have j3 : (0 : Int) ≤ (k : Int) := by omega
      have j4 : (k : Int) < nl := by omega
      have f0 := hbk.frozen 0
      have f1 := hbk.frozen 1
      have f2 := hbk.frozen 2
      have f3 := hbk.frozen 3
      have Hown := Lib.hid hown
      have Hbk := Lib.hid hbk
      have Hbel := Lib.hid hbel
      have Hoz := Lib.hid (HOv.out k z hz)
      have Ht := Lib.hid ht
      have Hl := Lib.hid hl
      clear hca hlw hY hown hoy hbel hbk ht hcl2 hl
      go_wp2_with fail
      go_quiet (fail)
      revert nq
      intro nq0
      go_wp2_with fail
      go_quiet (fail)
      go_wp2_with fail
      have hbk6 := box_set4 (w := wr.drewN (nq0 + nq)) Hbk.out z
      have hbel6 := below_set4 (y := z) (below_drewN_t Hbel.out (nq0 + nq)) hb0
      have hown6 := ownsRow_block (w := wr) (w' := set4 (wr.drewN (nq0 + nq)) b z) Hown.out (fun b' hb' => heap_set4 _ _ _ _ (fun e => hne (by rw [hb', e])))
      show Code.wp _ _ _ _ (set4 (wr.drewN (nq0 + nq)) b z)
      generalize set4 (wr.drewN (nq0 + nq)) b z = w6 at hbk6 hbel6 hown6 ⊢
      have y2 : w6.cell? ⟨b, 2, none⟩ = some (.int .u8 z.c) := hbk6.cell 2
      have hb6 := hbk6.lt
      obtain ⟨i0, hi0, hz0, hz1, hz2⟩ := info_parts intInfo
      have hl1 : l1.length + 1 ≤ 1099511627776 := by have h1 := hlen; have h2 := Hl.out; rw [h2] at h1; simp at h1; omega
      refine wp_region_noPanic ?_
      refine wp_region_T (fun w' => w'.cell? ⟨b, 2, none⟩ = some (.int .u8 z.c)) 9 (by kernel_rfl) y2 (fun hHeld => ?_)
      refine wpAnyT_take (i := 0) (v := ?_) rfl (by kernel_rfl) (by kernel_rfl) (by kernel_rfl) (by kernel_rfl) (fun _ _ _ h => h) (Or.inl ⟨by rfl, ?_⟩) (by assumption) ?_
      rotate_left
      · (intro w hSw; (try dsimp only at hSw); first | (go_simp; done) | (go_simp; with_reducible rfl))
      try simp only [Act.put, List.getElem_toArray, List.getElem_cons_zero, List.getElem_cons_succ, List.setIfInBounds_toArray, List.set_cons_zero, List.set_cons_succ]
      refine wpAnyT_take (i := 1) (v := ?_) rfl (by kernel_rfl) (by kernel_rfl) (by kernel_rfl) (by kernel_rfl) (fun _ _ _ h => h) (Or.inl ⟨by rfl, ?_⟩) (by assumption) ?_
      rotate_left
      · (intro w hSw; (try dsimp only at hSw); first | (go_simp; done) | (go_simp; with_reducible rfl))
      try simp only [Act.put, List.getElem_toArray, List.getElem_cons_zero, List.getElem_cons_succ, List.setIfInBounds_toArray, List.set_cons_zero, List.set_cons_succ]
      refine wpAnyT_take (i := 4) (v := ?_) rfl (by kernel_rfl) (by kernel_rfl) (by kernel_rfl) (by kernel_rfl) (fun _ _ _ h => h) (Or.inl ⟨by rfl, ?_⟩) (by assumption) ?_
      rotate_left
      · (intro w hSw; (try dsimp only at hSw); first | (go_simp; done) | (go_simp; with_reducible rfl))
      try simp only [Act.put, List.getElem_toArray, List.getElem_cons_zero, List.getElem_cons_succ, List.setIfInBounds_toArray, List.set_cons_zero, List.set_cons_succ]
      refine wpAnyT_take (i := 5) (v := ?_) rfl (by kernel_rfl) (by kernel_rfl) (by kernel_rfl) (by kernel_rfl) (fun _ _ _ h => h) (Or.inl ⟨by rfl, ?_⟩) (by assumption) ?_
      rotate_left
      · (intro w hSw; (try dsimp only at hSw); first | (go_simp; done) | (go_simp; with_reducible rfl))
      try simp only [Act.put, List.getElem_toArray, List.getElem_cons_zero, List.getElem_cons_succ, List.setIfInBounds_toArray, List.set_cons_zero, List.set_cons_succ]
      refine wpAnyT_take (i := 6) (v := ?_) rfl (by kernel_rfl) (by kernel_rfl) (by kernel_rfl) (by kernel_rfl) (fun _ _ _ h => h) (Or.inl ⟨by rfl, ?_⟩) (by assumption) ?_
      rotate_left
      · (intro w hSw; (try dsimp only at hSw); first | (go_simp; done) | (go_simp; with_reducible rfl))
      try simp only [Act.put, List.getElem_toArray, List.getElem_cons_zero, List.getElem_cons_succ, List.setIfInBounds_toArray, List.set_cons_zero, List.set_cons_succ]
      refine wpAnyT_take (i := 7) (v := ?_) rfl (by kernel_rfl) (by kernel_rfl) (by kernel_rfl) (by kernel_rfl) (fun _ _ _ h => h) (Or.inl ⟨by rfl, ?_⟩) (by assumption) ?_
      rotate_left
      · (intro w hSw; (try dsimp only at hSw); first | (go_simp; done) | (go_simp; with_reducible rfl))
      try simp only [Act.put, List.getElem_toArray, List.getElem_cons_zero, List.getElem_cons_succ, List.setIfInBounds_toArray, List.set_cons_zero, List.set_cons_succ]
      refine wpAnyT_step (i := 2) (by kernel_rfl) rfl (fun K hK => ?_)
      go_simp
      refine hK.out _ _ ((World.cell?_alloc_lt _ _ ⟨b, 2, none⟩ hb6).trans y2) ?_
      clear hK K
      try simp only [Act.put, List.getElem_toArray, List.getElem_cons_zero, List.getElem_cons_succ, List.setIfInBounds_toArray, List.set_cons_zero, List.set_cons_succ]
      refine wpAnyT_step (i := 3) (by kernel_rfl) rfl (fun K hK => ?_)
      (refine step_append_rd _ (by rfl) (.tmp 59) (.tmp 61) 23 (by rfl) w.heap.size 3 i0 _ 1 8 Try.underlying23 hi0 hz0 hz1 hz2 rfl (by omega) (.slice A (l1.length + 1) cc) (l1.length + 1) ((natI (i :: l1)).map (Value.int .i64)) (by rfl) (hown6.alloc _) _ (some ⟨w6.heap.size, 0, none⟩) 1 1 [.int .i64 (k : Int)] (by rfl) (rd_new1 _ _ _) (by intro u hu; simp at hu; subst hu; rfl) (by unfold maxLen; omega) (by omega) (by have := hbel6.size; simp; omega) ?_; intro v7 w7 ho7 hg7 hat7; obtain ⟨A7, c7, rfl⟩ := ownsRow_form ho7; have kq := fun (p : Addr) (hp : p.block < w6.heap.size) (hn : some p.block ≠ (Value.slice A (l1.length + 1) cc).ownBlock) => (World.cell?_of_block (hg7.block p.block (by simp; omega) hn)).trans (World.cell?_alloc_lt _ _ p hp))
      refine hK.out _ _ ((kq ⟨b, 2, none⟩ hb6 (Ne.symm hne)).trans y2) ?_
      clear hK K
      try simp only [Act.put, List.getElem_toArray, List.getElem_cons_zero, List.getElem_cons_succ, List.setIfInBounds_toArray, List.set_cons_zero, List.set_cons_succ]
      refine wpAnyT_step (i := 8) (by kernel_rfl) rfl (fun K hK => ?_)
      go_simp
      refine hK.out _ _ ((kq ⟨b, 2, none⟩ hb6 (Ne.symm hne)).trans y2) ?_
      clear hK K
      try simp only [Act.put, List.getElem_toArray, List.getElem_cons_zero, List.getElem_cons_succ, List.setIfInBounds_toArray, List.set_cons_zero, List.set_cons_succ]
      refine wpAnyT_seq 9 (by omega) (by rfl) (by kernel_rfl) ?_
      simp only [List.drop_succ_cons, List.drop_zero]
      go_wp2_with fail
      refine NoPanic.normal ?_
      have hbk7 : Blk w7 b 31 #[.int .i64 z.lv, .int .u8 z.lc, .int .u8 z.c, .int .i64 z.r] := (hg7.block b (by simp; omega) (Ne.symm hne)).trans (hbk6.alloc _)
      have q0 : w7.cell? ⟨b, 0, none⟩ = some (.int .i64 z.lv) := hbk7.cell 0
      have q1 : w7.cell? ⟨b, 1, none⟩ = some (.int .u8 z.lc) := hbk7.cell 1
      have q2 : w7.cell? ⟨b, 2, none⟩ = some (.int .u8 z.c) := hbk7.cell 2
      have q3 : w7.cell? ⟨b, 3, none⟩ = some (.int .i64 z.r) := hbk7.cell 3
      have hbel7 : Below w.heap.size w w7 := ((hbel6).alloc hbel6.size _).drew.grown hg7 (by have := hbel6.size; simp; omega) (fun k' hk' => (ownsRow_lt Hown.out hk').1)
      have hlt7 := fun b' => ownsRow_lt ho7 (b := b')
      have Hbel7 := Lib.hid hbel7
      have Ho7 := Lib.hid ho7
      have Hlt7 := Lib.hid hlt7
      clear hbk7 hbel7 ho7 hlt7 hg7 hat7 kq hbk6 hbel6 hown6
      go_wp2_with fail
      go_roundg l2.length
      case measure => simp
      case rel =>
        have e9 : (l1 ++ [k]).length = l1.length + 1 := by simp
        refine ⟨l1 ++ [k], l2, z, max over z.c, w7.heap.size, c7, A7, by rw [Hl.out]; simp, rfl, by rw [e9], rfl, rfl, blk_new w7 _ _, ?_, ?_, Hbel7.out.size, Hbel7.out.alloc Hbel7.out.size _, Ht.out, Hoz.out⟩
        · rw [e9, show natI (i :: (l1 ++ [k])) = natI (i :: l1) ++ [(k : Int)] from by simp [natI], List.map_append]
          exact Ho7.out.alloc _
        · rw [e9]
          intro e
          have := (Hlt7.out _ e).2
          omega

end Go.Proofs.Ythabkpkgocafoaa
