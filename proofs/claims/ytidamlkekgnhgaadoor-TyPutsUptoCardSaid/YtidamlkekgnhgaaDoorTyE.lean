/- The contract of ty.May, by the closures that it makes. -/
import Derived.Test.YtidamlkekgnhgaaDoorTyC
namespace Go.Proofs.YtidamlkekgnhgaaDoor
set_option linter.unusedVariables false
set_option linter.unusedSimpArgs false
open Go.RowKit

/-- may a type be, of however many nodes? -/
def mayT : TyD → Bool
  | .mk k n v c l => isN (.mk k n v c l) && mayL l
where mayL : List TyD → Bool
  | [] => true
  | t :: r => mayT t && mayL r
theorem mayL_all (l : List TyD) : mayT.mayL l = l.all mayT := by
  induction l with
  | nil => rfl
  | cons t r ih => rw [mayT.mayL, List.all_cons, ih]
theorem mayT_eq (t : TyD) : mayT t = (isN t && t.l.all mayT) := by
  cases t; rw [mayT, mayL_all]; rfl
def mayTE (t : TyD) : Int := if 300 < sizeW t then 3 else if mayT t then 0 else 2

/-- where a predicate holds first -/
def idxT (p : TyD → Bool) (ts : List TyD) : Int := match ts.findIdx? p with
  | some i => i
  | none => -1
theorem idxT_some {p : TyD → Bool} {ts : List TyD} {i : Nat} (h : i < ts.length) (hb : ∀ j (h : j < ts.length), j < i → p ts[j] = false) (hp : p ts[i] = true) : idxT p ts = i := by
  have : ts.findIdx? p = some i := List.findIdx?_eq_some_iff_getElem.2 ⟨h, hp, fun j hj => by simp [hb j (by omega) hj]⟩
  unfold idxT
  rw [this]
theorem idxT_none {p : TyD → Bool} {ts : List TyD} (hb : ∀ j (h : j < ts.length), p ts[j] = false) : idxT p ts = -1 := by
  have : ts.findIdx? p = none := List.findIdx?_eq_none_iff.2 fun x hx => by
    obtain ⟨j, hj, rfl⟩ := List.getElem_of_mem hx
    exact hb j hj
  unfold idxT
  rw [this]
theorem idxT_any (p : TyD → Bool) (ts : List TyD) : decide (idxT p ts ≥ 0) = ts.any p := by
  unfold idxT
  cases h : ts.findIdx? p with
  | none =>
    rw [List.findIdx?_eq_none_iff] at h
    have : ts.any p = false := by rw [List.any_eq_false]; intro x hx; simp [h x hx]
    rw [this]; rfl
  | some i =>
    obtain ⟨hi, hp, _⟩ := List.findIdx?_eq_some_iff_getElem.1 h
    have : ts.any p = true := List.any_eq_true.2 ⟨_, List.getElem_mem hi, hp⟩
    rw [this]
    simp

set_option maxRecDepth 100000 in
set_option maxHeartbeats 1000000 in
theorem indexM (p : TyD → Bool) (gp : Nat) (A : Option Addr) (n c : Nat) (ts : List TyD) (w : World) (hr : TysV w w.heap.size A n c ts)
    (he : ∀ i (h : i < ts.length) (A' : Option Addr) (m' c' : Nat) (w' : World), Below w.heap.size w w' → TysV w' w'.heap.size A' m' c' ts[i].l →
      Calls Tryd.prog 46 (#[.agg #[.int .u8 ts[i].k, .int .i64 ts[i].n, .int .i64 ts[i].v, .int .u8 ts[i].c, .slice A' m' c']] ++ #[.pointer (some ⟨gp, 0, none⟩)]) w' fun e w'' => e = .returned (.bool (p ts[i])) ∧ Below w'.heap.size w' w'') :
    Calls Tryd.prog 77 #[.slice A n c, .func (.func 46) #[] #[.pointer (some ⟨gp, 0, none⟩)]] w fun e w' => e = .returned (.int .i64 (idxT p ts)) ∧ Below w.heap.size w w' := by
  have hlen := hr.len
  have m63 : n ≤ 9223372036854775807 := Nat.le_trans hr.2.1 hr.2.2.1
  have Hr := Lib.hid hr
  have He := Lib.hid he
  clear hr he
  go_enter Tryd.func77, Tryd.ntmps77
  go_wp2_with fail
  go_loopg [5, 8] n (fun g _ i wr => ∃ k : Nat, k ≤ n ∧ g = n - k ∧ i = .int .i64 k ∧ (∀ j (h : j < ts.length), j < k → p ts[j] = false) ∧ Below w.heap.size w wr)
  case atStart => exact ⟨0, Nat.zero_le _, rfl, rfl, fun j _ h => absurd h (by omega), Below.refl _ _⟩
  case round =>
    obtain ⟨k, hk, rfl, rfl, hno, hbel⟩ := hrel
    have Hno := Lib.hid hno
    have Hbel := Lib.hid hbel
    clear hno
    by_cases hkn : k < n
    · have d0 : decide (k < n) = true := by simpa using hkn
      have hk' : k < ts.length := by omega
      obtain ⟨b, off, rfl, hb, hc⟩ := (Hr.out.below hbel).at_ (by omega)
      obtain ⟨e0, e1, e2, e3, Ax, mx, cx, e4, hx⟩ := tyAt_iff.1 (hc k hk')
      have hq := He.out k hk' Ax mx cx wr hbel (hx.more hbel.size)
      obtain ⟨P, hP⟩ : ∃ P, p ts[k] = P := ⟨_, rfl⟩
      rw [hP] at hq
      have HP := Lib.hid hP
      obtain ⟨x, hxk⟩ : ∃ x, ts[k] = x := ⟨_, rfl⟩
      rw [hxk] at e0 e1 e2 e3 hx hq
      have Hq := Lib.hid hq
      have k1 : (0 : Int) ≤ (k : Int) := by omega
      have k2 : (k : Int) < n := by omega
      clear hc hx hxk hq hP hbel
      cases P with
      | false =>
        have hno2 : ∀ j (h : j < ts.length), j < k + 1 → p ts[j] = false := fun j hj hjk => by
          rcases Nat.lt_or_ge j k with h | h
          · exact Hno.out j hj h
          · have : j = k := by omega
            subst this
            exact HP.out
        have Hno2 := Lib.hid hno2
        clear hno2
        go_wp2_with fail
        refine Hq.out.mono ?_; rintro e w1 ⟨rfl, hb1⟩
        have Hb1 := Lib.hid (Hbel.out.trans (hb1.mono Hbel.out.size))
        clear hb1
        go_wp2_with fail
        go_roundg (n - (k + 1))
        case measure => omega
        case rel => exact ⟨k + 1, by omega, rfl, by go_num, Hno2.out, Hb1.out⟩
      | true =>
        have HF : Hid ((k : Int) = idxT p ts) := Lib.hid (idxT_some hk' Hno.out HP.out).symm
        go_wp2_with fail
        refine Hq.out.mono ?_; rintro e w1 ⟨rfl, hb1⟩
        have Hb1 := Lib.hid (Hbel.out.trans (hb1.mono Hbel.out.size))
        clear hb1
        go_wp2_with fail
        go_ret
        exact ⟨ret_int HF.out, Hb1.out⟩
    · have d0 : decide (k < n) = false := by simpa using hkn
      have HF : Hid (-1 = idxT p ts) := Lib.hid (idxT_none (fun j hj => Hno.out j hj (by omega))).symm
      go_wp2_with fail
      go_ret
      exact ⟨ret_int HF.out, Hbel.out⟩
set_option maxRecDepth 100000 in
theorem containsM (p : TyD → Bool) (gp : Nat) (A : Option Addr) (n c : Nat) (ts : List TyD) (w : World) (hr : TysV w w.heap.size A n c ts)
    (he : ∀ i (h : i < ts.length) (A' : Option Addr) (m' c' : Nat) (w' : World), Below w.heap.size w w' → TysV w' w'.heap.size A' m' c' ts[i].l →
      Calls Tryd.prog 46 (#[.agg #[.int .u8 ts[i].k, .int .i64 ts[i].n, .int .i64 ts[i].v, .int .u8 ts[i].c, .slice A' m' c']] ++ #[.pointer (some ⟨gp, 0, none⟩)]) w' fun e w'' => e = .returned (.bool (p ts[i])) ∧ Below w'.heap.size w' w'') (r : Bool) (hr2 : ts.any p = r) :
    Calls Tryd.prog 45 #[.slice A n c, .func (.func 46) #[] #[.pointer (some ⟨gp, 0, none⟩)]] w fun e w' => e = .returned (.bool r) ∧ Below w.heap.size w w' := by
  have hi := indexM p gp A n c ts w hr he
  have hd := idxT_any p ts
  rw [hr2] at hd
  obtain ⟨z, hz⟩ : ∃ z, idxT p ts = z := ⟨_, rfl⟩
  rw [hz] at hi hd
  have Hi := Lib.hid hi
  clear hi hz hr he hr2
  cases r with
  | true =>
    go_enter Tryd.func45, Tryd.ntmps45
    go_wp2_with fail
    refine Hi.out.mono ?_; rintro e w1 ⟨rfl, hb1⟩
    go_wp2_with fail
    go_ret
    exact ⟨rfl, hb1⟩
  | false =>
    go_enter Tryd.func45, Tryd.ntmps45
    go_wp2_with fail
    refine Hi.out.mono ?_; rintro e w1 ⟨rfl, hb1⟩
    go_wp2_with fail
    go_ret
    exact ⟨rfl, hb1⟩

/-- the cell that holds May's closure -/
def MayCell (w : World) (gp : Nat) : Prop := w.cell? ⟨gp, 0, none⟩ = some (.func (.func 43) #[] #[.pointer (some ⟨gp, 0, none⟩)])
theorem MayCell.below {w w' : World} {gp : Nat} (h : MayCell w gp) (hb : Below w.heap.size w w') : MayCell w' gp := (hb.cell (p := ⟨gp, 0, none⟩) (block_lt_of_cell h)).trans h

set_option maxRecDepth 100000 in
set_option maxHeartbeats 2000000 in
theorem may1_go (gp : Nat) : ∀ (N : Nat) (t : TyD), nodes t ≤ N → ∀ (A : Option Addr) (m cp : Nat) (w : World), TysV w w.heap.size A m cp t.l → MayCell w gp →
    Calls Tryd.prog 43 #[.agg #[.int .u8 t.k, .int .i64 t.n, .int .i64 t.v, .int .u8 t.c, .slice A m cp], .pointer (some ⟨gp, 0, none⟩)] w fun e w' => e = .returned (.bool (mayT t)) ∧ Below w.heap.size w w'
  | 0, t, hN, A, m, cp, w, h, hg => absurd hN (by rw [nodes_eq t]; omega)
  | N + 1, t, hN, A, m, cp, w, hl, hg => by
    have hlen := hl.len
    have m63 : m ≤ 9223372036854775807 := Nat.le_trans hl.2.1 hl.2.2.1
    have hbx := below_box (w := w) (Obj.cells #[.int .u8 t.k, .int .i64 t.n, .int .i64 t.v, .int .u8 t.c, .slice A m cp] 27)
    have hz := blk_new w #[.int .u8 t.k, .int .i64 t.n, .int .i64 t.v, .int .u8 t.c, .slice A m cp] 27
    have hL := (hl.below hbx).more hbx.size
    have hg1 := hg.below hbx
    have HN : Hid (∀ i (h : i < t.l.length), nodes t.l[i] ≤ N) := Lib.hid fun i h => by have := nodes_get h; omega
    -- a child, by the inner closure
    have hin : ∀ i (h : i < t.l.length) (A' : Option Addr) (m' c' : Nat) (w' : World), MayCell w' gp → TysV w' w'.heap.size A' m' c' t.l[i].l →
        Calls Tryd.prog 46 (#[.agg #[.int .u8 t.l[i].k, .int .i64 t.l[i].n, .int .i64 t.l[i].v, .int .u8 t.l[i].c, .slice A' m' c']] ++ #[.pointer (some ⟨gp, 0, none⟩)]) w' fun e w'' => e = .returned (.bool (!mayT t.l[i])) ∧ Below w'.heap.size w' w'' := by
      intro i h A' m' c' w' hg' hx
      have hbB := below_box (w := w') (Obj.cells #[.int .u8 t.l[i].k, .int .i64 t.l[i].n, .int .i64 t.l[i].v, .int .u8 t.l[i].c, .slice A' m' c'] 27)
      have hzB := blk_new w' #[.int .u8 t.l[i].k, .int .i64 t.l[i].n, .int .i64 t.l[i].v, .int .u8 t.l[i].c, .slice A' m' c'] 27
      have hgB : (w'.alloc (Obj.cells #[.int .u8 t.l[i].k, .int .i64 t.l[i].n, .int .i64 t.l[i].v, .int .u8 t.l[i].c, .slice A' m' c'] 27)).cell? ⟨gp, 0, none⟩ = some (.func (.func 43) #[] #[.pointer (some ⟨gp, 0, none⟩)]) := hg'.below hbB
      have hq := may1_go gp N t.l[i] (HN.out i h) A' m' c' _ ((hx.below hbB).more hbB.size) hgB
      have Hq := Lib.hid hq
      have HbB := Lib.hid hbB
      obtain ⟨M, hM⟩ : ∃ M, mayT t.l[i] = M := ⟨_, rfl⟩
      rw [hM] at Hq ⊢
      clear hq hx hg' hbB hM
      generalize t.l[i] = x at hzB Hq HbB hgB ⊢
      have x0 := hzB.cell 0
      have x1 := hzB.cell 1
      have x2 := hzB.cell 2
      have x3 := hzB.cell 3
      have x4 := hzB.cell 4
      clear hzB
      cases M with
      | true =>
        go_enter Tryd.func46, Tryd.ntmps46
        go_wp2_with fail
        refine Hq.out.mono ?_; rintro e w1 ⟨rfl, hb1⟩
        have hb2 := HbB.out.trans (hb1.mono HbB.out.size)
        clear hgB x0 x1 x2 x3 x4 hb1
        go_wp2_with fail
        go_ret
        exact ⟨rfl, hb2⟩
      | false =>
        go_enter Tryd.func46, Tryd.ntmps46
        go_wp2_with fail
        refine Hq.out.mono ?_; rintro e w1 ⟨rfl, hb1⟩
        have hb2 := HbB.out.trans (hb1.mono HbB.out.size)
        clear hgB x0 x1 x2 x3 x4 hb1
        go_wp2_with fail
        go_ret
        exact ⟨rfl, hb2⟩
    have hq1 := fun (w' : World) => isN_any t.k t.n t.v t.c t.l A m cp w' hlen m63
    rw [← t.eta] at hq1
    have Hq1 := Lib.hid hq1
    have HL := Lib.hid hL
    have Hz := Lib.hid hz
    have Hg := Lib.hid hg1
    have Hbx := Lib.hid hbx
    have Hin := Lib.hid hin
    have hmt := mayT_eq t
    obtain ⟨I, hI⟩ : ∃ I, isN t = I := ⟨_, rfl⟩
    rw [hI] at Hq1 hmt
    have Hmt := Lib.hid hmt
    clear hl hbx hz hL hg hg1 hN hin hq1 hmt hI
    go_enter Tryd.func43, Tryd.ntmps43
    have z0 : (w.alloc (Obj.cells #[.int .u8 t.k, .int .i64 t.n, .int .i64 t.v, .int .u8 t.c, .slice A m cp] 27)).cell? ⟨w.heap.size, 0, none⟩ = _ := Hz.out.cell 0
    have z1 : (w.alloc (Obj.cells #[.int .u8 t.k, .int .i64 t.n, .int .i64 t.v, .int .u8 t.c, .slice A m cp] 27)).cell? ⟨w.heap.size, 1, none⟩ = _ := Hz.out.cell 1
    have z2 : (w.alloc (Obj.cells #[.int .u8 t.k, .int .i64 t.n, .int .i64 t.v, .int .u8 t.c, .slice A m cp] 27)).cell? ⟨w.heap.size, 2, none⟩ = _ := Hz.out.cell 2
    have z3 : (w.alloc (Obj.cells #[.int .u8 t.k, .int .i64 t.n, .int .i64 t.v, .int .u8 t.c, .slice A m cp] 27)).cell? ⟨w.heap.size, 3, none⟩ = _ := Hz.out.cell 3
    have z4 : (w.alloc (Obj.cells #[.int .u8 t.k, .int .i64 t.n, .int .i64 t.v, .int .u8 t.c, .slice A m cp] 27)).cell? ⟨w.heap.size, 4, none⟩ = _ := Hz.out.cell 4
    cases I with
    | false =>
      have HR : Hid (false = mayT t) := Lib.hid (by rw [Hmt.out]; rfl)
      go_wp2_with fail
      refine (Hq1.out _).mono ?_; rintro e w1 ⟨rfl, hb1⟩
      have hb2 := Hbx.out.trans (hb1.mono Hbx.out.size)
      clear z0 z1 z2 z3 z4 hb1
      go_wp2_with fail
      go_ret
      exact ⟨ret_bool HR.out, hb2⟩
    | true =>
      go_wp2_with fail
      refine (Hq1.out _).mono ?_; rintro e w1 ⟨rfl, hb1⟩
      have hL1 := (HL.out.below hb1).more hb1.size
      have hg1 := Hg.out.below hb1
      have y4 : w1.cell? ⟨w.heap.size, 4, none⟩ = some (.slice A m cp) := (Hz.out.below hb1 Hz.out.lt).cell 4
      have hb2 := Hbx.out.trans (hb1.mono Hbx.out.size)
      obtain ⟨R, hR⟩ : ∃ R, t.l.any (fun x => !mayT x) = R := ⟨_, rfl⟩
      have hq := containsM (fun x => !mayT x) gp A m cp t.l w1 hL1 (fun i h A' m' c' w' hb hx => Hin.out i h A' m' c' w' (hg1.below hb) hx) R hR
      have Hq := Lib.hid hq
      have HR : Hid ((!R) = mayT t) := Lib.hid (by rw [Hmt.out, Bool.true_and, ← hR, List.all_eq_not_any_not])
      have Hb2 := Lib.hid hb2
      clear z0 z1 z2 z3 z4 hb1 hL1 hg1 hb2 hq hR Hq1 HL Hz Hg Hbx Hin Hmt
      cases R with
      | true =>
        go_wp2_with fail
        refine Hq.out.mono ?_; rintro e w3 ⟨rfl, hb3⟩
        have hb4 := Hb2.out.trans (hb3.mono Hb2.out.size)
        clear hb3 y4
        go_wp2_with fail
        go_ret
        exact ⟨ret_bool HR.out, hb4⟩
      | false =>
        go_wp2_with fail
        refine Hq.out.mono ?_; rintro e w3 ⟨rfl, hb3⟩
        have hb4 := Hb2.out.trans (hb3.mono Hb2.out.size)
        clear hb3 y4
        go_wp2_with fail
        go_ret
        exact ⟨ret_bool HR.out, hb4⟩

end Go.Proofs.YtidamlkekgnhgaaDoor
