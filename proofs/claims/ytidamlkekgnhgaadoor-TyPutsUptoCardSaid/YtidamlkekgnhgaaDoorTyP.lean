/- Contracts of Put's other closures; Mus in memory. -/
import Derived.Test.YtidamlkekgnhgaaDoorTyO
namespace Go.Proofs.YtidamlkekgnhgaaDoor
set_option linter.unusedVariables false
set_option linter.unusedSimpArgs false
open Go.RowKit

/-- a slice of Mus: their variables and constants -/
def MusV (w : World) (B : Nat) (A : Option Addr) (n c : Nat) (ms : List (Int × Int)) : Prop :=
  ms.length = n ∧ n ≤ c ∧ c ≤ maxLen ∧ (0 < n → ∃ b off, A = some ⟨b, off, none⟩ ∧ b < B ∧ ∀ i (h : i < ms.length), w.cell? ⟨b, off + i * 2, none⟩ = some (.int .i64 ms[i].1) ∧ w.cell? ⟨b, off + i * 2 + 1, none⟩ = some (.int .u8 ms[i].2))
section
variable {w w' : World} {B B' : Nat} {A : Option Addr} {n c : Nat} {ms : List (Int × Int)}
theorem MusV.keep (h : MusV w B A n c ms) (hk : ∀ p : Addr, p.block < B → w'.cell? p = w.cell? p) : MusV w' B A n c ms := by
  obtain ⟨h1, h2, h3, h4⟩ := h
  refine ⟨h1, h2, h3, fun hn => ?_⟩
  obtain ⟨b, off, e, hb, hc⟩ := h4 hn
  exact ⟨b, off, e, hb, fun i hi => ⟨(hk _ hb).trans (hc i hi).1, (hk _ hb).trans (hc i hi).2⟩⟩
theorem MusV.more (h : MusV w B A n c ms) (hB : B ≤ B') : MusV w B' A n c ms := by
  obtain ⟨h1, h2, h3, h4⟩ := h
  refine ⟨h1, h2, h3, fun hn => ?_⟩
  obtain ⟨b, off, e, hb, hc⟩ := h4 hn
  exact ⟨b, off, e, by omega, hc⟩
theorem MusV.below (h : MusV w B A n c ms) (hb : Below B w w') : MusV w' B A n c ms := h.keep fun _ hp => hb.cell hp
theorem MusV.len (h : MusV w B A n c ms) : ms.length = n := h.1
end

set_option maxRecDepth 100000 in
set_option maxHeartbeats 2000000 in
theorem put4_any (p2 : Nat) (A : Option Addr) (n c : Nat) (ms : List (Int × Int)) (i : Int) (w : World) (hp : w.cell? ⟨p2, 0, none⟩ = some (.slice A n c)) (ht : MusV w w.heap.size A n c ms) (h0 : 0 ≤ i) :
    Calls Tryd.prog 61 (#[.int .i64 i] ++ #[.pointer (some ⟨p2, 0, none⟩)]) w fun e w' => e = .returned (.agg #[.int .i64 (putM ms i).1, .int .u8 (putM ms i).2]) ∧ Below w.heap.size w w' := by
  have hlen := ht.len
  have m63 : n ≤ 9223372036854775807 := Nat.le_trans ht.2.1 ht.2.2.1
  have hbx := below_box (w := w) (Obj.cells #[.int .i64 0, .int .u8 0] 24)
  have hy := blk_new w #[.int .i64 0, .int .u8 0] 24
  have hL := (ht.below hbx).more hbx.size
  have hp1 := (hbx.cell (p := ⟨p2, 0, none⟩) (block_lt_of_cell hp)).trans hp
  have s0 := hy.frozen 0
  have s1 := hy.frozen 1
  have r0 := hy.cell 0
  have r1 := hy.cell 1
  obtain ⟨V, hV⟩ : ∃ V, (putM ms i).1 = V := ⟨_, rfl⟩
  obtain ⟨C, hC⟩ : ∃ C, (putM ms i).2 = C := ⟨_, rfl⟩
  rw [hV, hC]
  by_cases hi : i < n
  · have d0 : decide (i < n) = true := by simpa using hi
    have hi' : i.toNat < ms.length := by omega
    have hv : putM ms i = ms[i.toNat] := by unfold putM; rw [if_pos (by omega), List.getD_eq_getElem?_getD, List.getElem?_eq_getElem hi']; rfl
    rw [hv] at hV hC
    obtain ⟨b, off, rfl, hb, hc⟩ := hL.2.2.2 (by omega)
    obtain ⟨e0, e1⟩ := hc i.toNat hi'
    rw [hV] at e0
    rw [hC] at e1
    have Hbx := Lib.hid hbx
    clear ht hbx hL hp hc hv hV hC
    go_enter Tryd.func61, Tryd.ntmps61
    go_wp2_with fail
    have hb9 := (Hbx.out.setCell (p := ⟨w.heap.size, 0, none⟩) (Nat.le_refl _) (.int .i64 V)).setCell (p := ⟨w.heap.size, 1, none⟩) (Nat.le_refl _) (.int .u8 C)
    have hs : Blk (((w.alloc (Obj.cells #[.int .i64 0, .int .u8 0] 24)).setCell ⟨w.heap.size, 0, none⟩ (.int .i64 V)).setCell ⟨w.heap.size, 1, none⟩ (.int .u8 C)) w.heap.size 24 #[.int .i64 V, .int .u8 C] := (hy.set_ 0 (.int .i64 V)).set_ 1 (.int .u8 C)
    first
      | exact bodyPost_ret (v := .agg #[.int .i64 V, .int .u8 C]) (by simp [results, Tryd.results61, go_sem]) rfl ⟨rfl, below_box _⟩
      | exact bodyPost_ret (v := .agg #[.int .i64 V, .int .u8 C]) (by simp [results, Tryd.results61, go_sem, hs.cell 0, hs.cell 1]) rfl ⟨rfl, hb9⟩
  · have d0 : decide (i < n) = false := by simpa using hi
    have hv : putM ms i = (i, 0) := by unfold putM; rw [if_neg (by omega)]
    rw [hv] at hV hC
    dsimp only at hV hC
    subst hV; subst hC
    have Hbx := Lib.hid hbx
    clear ht hbx hL hp hv hi
    go_enter Tryd.func61, Tryd.ntmps61
    go_wp2_with fail
    exact bodyPost_ret (v := .agg #[.int .i64 i, .int .u8 0]) (by simp [results, Tryd.results61, go_sem]) rfl ⟨rfl, below_box _⟩

/-- what Put takes for wrong -/
theorem put1_any (t : TyD) (A : Option Addr) (m cp : Nat) (w : World) (h : TysV w w.heap.size A m cp t.l) :
    Calls Tryd.prog 53 (#[.agg #[.int .u8 t.k, .int .i64 t.n, .int .i64 t.v, .int .u8 t.c, .slice A m cp]] ++ #[]) w fun e w' => e = .returned (.bool (mayTE t != 0)) ∧ Below w.heap.size w w' := by
  have hbx := below_box (w := w) (Obj.cells #[.int .u8 t.k, .int .i64 t.n, .int .i64 t.v, .int .u8 t.c, .slice A m cp] 27)
  have hq := tyMay_any t (.agg #[.int .u8 t.k, .int .i64 t.n, .int .i64 t.v, .int .u8 t.c, .slice A m cp]) _ ⟨A, m, cp, rfl, (h.below hbx).more hbx.size⟩
  obtain ⟨E, hE⟩ : ∃ E, mayTE t = E := ⟨_, rfl⟩
  rw [hE] at hq ⊢
  have Hq := Lib.hid hq
  clear hq h hE
  by_cases h0 : E = 0
  · have d : (E != 0) = false := by simp [h0]
    rw [d]
    clear h0
    go_enter Tryd.func53, Tryd.ntmps53
    go_wp2_with fail
    refine Hq.out.mono ?_; rintro e w1 ⟨rfl, hb1⟩
    go_wp2_with fail
    go_ret
    exact ⟨rfl, hbx.trans (hb1.mono hbx.size)⟩
  · have d : (E != 0) = true := by simp [h0]
    rw [d]
    clear h0
    go_enter Tryd.func53, Tryd.ntmps53
    go_wp2_with fail
    refine Hq.out.mono ?_; rintro e w1 ⟨rfl, hb1⟩
    go_wp2_with fail
    go_ret
    exact ⟨rfl, hbx.trans (hb1.mono hbx.size)⟩

set_option maxRecDepth 100000 in
set_option maxHeartbeats 1000000 in
theorem indexW (p : TyD → Bool)  (A : Option Addr) (n c : Nat) (ts : List TyD) (w : World) (hr : TysV w w.heap.size A n c ts)
    (he : ∀ i (h : i < ts.length) (A' : Option Addr) (m' c' : Nat) (w' : World), Below w.heap.size w w' → TysV w' w'.heap.size A' m' c' ts[i].l →
      Calls Tryd.prog 53 (#[.agg #[.int .u8 ts[i].k, .int .i64 ts[i].n, .int .i64 ts[i].v, .int .u8 ts[i].c, .slice A' m' c']] ++ #[]) w' fun e w'' => e = .returned (.bool (p ts[i])) ∧ Below w'.heap.size w' w'') :
    Calls Tryd.prog 77 #[.slice A n c, .func (.func 53) #[] #[]] w fun e w' => e = .returned (.int .i64 (idxT p ts)) ∧ Below w.heap.size w w' := by
  have hlen := hr.len
  have m63 : n ≤ 9223372036854775807 := Nat.le_trans hr.2.1 hr.2.2.1
  have Hr := Lib.hid hr
  have He := Lib.hid he
  clear hr he
  go_enter Tryd.func77, Tryd.ntmps77
  go_wp2_with fail
  go_loopg [5, 8] n (fun g _ i wr => ∃ k : Nat, k ≤ n ∧ g = n - k ∧ i = .int .i64 k ∧ (∀ j (h : j < ts.length), j < k → p ts[j] = false) ∧ Below w.heap.size w wr)
  case atStart => exact ⟨0, Nat.zero_le _, rfl, rfl, fun j _ h => absurd h (by omega), Below.refl _ _⟩
  case round =>
    obtain ⟨k, hk, rfl, rfl, hno, hbel⟩ := hrel
    have Hno := Lib.hid hno
    have Hbel := Lib.hid hbel
    clear hno
    by_cases hkn : k < n
    · have d0 : decide (k < n) = true := by simpa using hkn
      have hk' : k < ts.length := by omega
      obtain ⟨b, off, rfl, hb, hc⟩ := (Hr.out.below hbel).at_ (by omega)
      obtain ⟨e0, e1, e2, e3, Ax, mx, cx, e4, hx⟩ := tyAt_iff.1 (hc k hk')
      have hq := He.out k hk' Ax mx cx wr hbel (hx.more hbel.size)
      obtain ⟨P, hP⟩ : ∃ P, p ts[k] = P := ⟨_, rfl⟩
      rw [hP] at hq
      have HP := Lib.hid hP
      obtain ⟨x, hxk⟩ : ∃ x, ts[k] = x := ⟨_, rfl⟩
      rw [hxk] at e0 e1 e2 e3 hx hq
      have Hq := Lib.hid hq
      have k1 : (0 : Int) ≤ (k : Int) := by omega
      have k2 : (k : Int) < n := by omega
      clear hc hx hxk hq hP hbel
      cases P with
      | false =>
        have hno2 : ∀ j (h : j < ts.length), j < k + 1 → p ts[j] = false := fun j hj hjk => by
          rcases Nat.lt_or_ge j k with h | h
          · exact Hno.out j hj h
          · have : j = k := by omega
            subst this
            exact HP.out
        have Hno2 := Lib.hid hno2
        clear hno2
        go_wp2_with fail
        refine Hq.out.mono ?_; rintro e w1 ⟨rfl, hb1⟩
        have Hb1 := Lib.hid (Hbel.out.trans (hb1.mono Hbel.out.size))
        clear hb1
        go_wp2_with fail
        go_roundg (n - (k + 1))
        case measure => omega
        case rel => exact ⟨k + 1, by omega, rfl, by go_num, Hno2.out, Hb1.out⟩
      | true =>
        have HF : Hid ((k : Int) = idxT p ts) := Lib.hid (idxT_some hk' Hno.out HP.out).symm
        go_wp2_with fail
        refine Hq.out.mono ?_; rintro e w1 ⟨rfl, hb1⟩
        have Hb1 := Lib.hid (Hbel.out.trans (hb1.mono Hbel.out.size))
        clear hb1
        go_wp2_with fail
        go_ret
        exact ⟨ret_int HF.out, Hb1.out⟩
    · have d0 : decide (k < n) = false := by simpa using hkn
      have HF : Hid (-1 = idxT p ts) := Lib.hid (idxT_none (fun j hj => Hno.out j hj (by omega))).symm
      go_wp2_with fail
      go_ret
      exact ⟨ret_int HF.out, Hbel.out⟩
set_option maxRecDepth 100000 in
theorem containsW (p : TyD → Bool)  (A : Option Addr) (n c : Nat) (ts : List TyD) (w : World) (hr : TysV w w.heap.size A n c ts)
    (he : ∀ i (h : i < ts.length) (A' : Option Addr) (m' c' : Nat) (w' : World), Below w.heap.size w w' → TysV w' w'.heap.size A' m' c' ts[i].l →
      Calls Tryd.prog 53 (#[.agg #[.int .u8 ts[i].k, .int .i64 ts[i].n, .int .i64 ts[i].v, .int .u8 ts[i].c, .slice A' m' c']] ++ #[]) w' fun e w'' => e = .returned (.bool (p ts[i])) ∧ Below w'.heap.size w' w'') (r : Bool) (hr2 : ts.any p = r) :
    Calls Tryd.prog 45 #[.slice A n c, .func (.func 53) #[] #[]] w fun e w' => e = .returned (.bool r) ∧ Below w.heap.size w w' := by
  have hi := indexW p  A n c ts w hr he
  have hd := idxT_any p ts
  rw [hr2] at hd
  obtain ⟨z, hz⟩ : ∃ z, idxT p ts = z := ⟨_, rfl⟩
  rw [hz] at hi hd
  have Hi := Lib.hid hi
  clear hi hz hr he hr2
  cases r with
  | true =>
    go_enter Tryd.func45, Tryd.ntmps45
    go_wp2_with fail
    refine Hi.out.mono ?_; rintro e w1 ⟨rfl, hb1⟩
    go_wp2_with fail
    go_ret
    exact ⟨rfl, hb1⟩
  | false =>
    go_enter Tryd.func45, Tryd.ntmps45
    go_wp2_with fail
    refine Hi.out.mono ?_; rintro e w1 ⟨rfl, hb1⟩
    go_wp2_with fail
    go_ret
    exact ⟨rfl, hb1⟩

end Go.Proofs.YtidamlkekgnhgaaDoor
