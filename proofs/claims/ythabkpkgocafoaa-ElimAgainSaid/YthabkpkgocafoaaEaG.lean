/- Texts of this claim, laid one behind the other: ElimV, ElimW, ElimX. -/
import Derived.Test.YthabkpkgocafoaaEaK
import Derived.Test.YthabkpkgocafoaaEaC
import Derived.Lib.QuietBelow
/- Tables in memory; contracts: elim.none, May, Same, Lets. -/
namespace Go.Proofs.Ythabkpkgocafoaa
set_option linter.unusedVariables false
set_option linter.unusedSimpArgs false
open Go.RowKit

/-- a slice of slices of multiplicities -/
def MssV (w : World) (B : Nat) (A : Option Addr) (n c : Nat) (ls : List (List Int)) : Prop :=
  ls.length = n ∧ n ≤ c ∧ c ≤ maxLen ∧ (0 < n → ∃ b off, A = some ⟨b, off, none⟩ ∧ b < B ∧ ∀ i (h : i < ls.length), ∃ A' c', w.cell? ⟨b, off + i, none⟩ = some (.slice A' ls[i].length c') ∧ RdI .u8 w B A' ls[i].length c' ls[i])
def TabV (w : World) (B : Nat) (v : Value) (t : TabD) : Prop :=
  ∃ A1 c1 A2 c2 A3 c3, v = .agg #[.slice A1 t.low.length c1, .slice A2 t.up.length c2, .slice A3 t.pair.length c3] ∧ RdI .u8 w B A1 t.low.length c1 t.low ∧ RdI .u8 w B A2 t.up.length c2 t.up ∧ MssV w B A3 t.pair.length c3 t.pair
section
variable {w w' : World} {B B' n c : Nat} {A : Option Addr} {ls : List (List Int)} {us : List Int} {v : Value} {t : TabD}
theorem MssV.below (h : MssV w B A n c ls) (hb : Below B w w') : MssV w' B A n c ls := by
  refine ⟨h.1, h.2.1, h.2.2.1, fun hn => ?_⟩
  obtain ⟨b, off, e, hbB, hc⟩ := h.2.2.2 hn
  refine ⟨b, off, e, hbB, fun i hi => ?_⟩
  obtain ⟨A', c', h1, h2⟩ := hc i hi
  exact ⟨A', c', (hb.cell (p := ⟨b, off + i, none⟩) hbB).trans h1, h2.below hb⟩
theorem MssV.more (h : MssV w B A n c ls) (hb : B ≤ B') : MssV w B' A n c ls := by
  refine ⟨h.1, h.2.1, h.2.2.1, fun hn => ?_⟩
  obtain ⟨b, off, e, hbB, hc⟩ := h.2.2.2 hn
  refine ⟨b, off, e, by omega, fun i hi => ?_⟩
  obtain ⟨A', c', h1, h2⟩ := hc i hi
  exact ⟨A', c', h1, h2.more hb⟩
theorem MssV.fresh (h : MssV w w.heap.size A n c ls) (hb : Below w.heap.size w w') : MssV w' w'.heap.size A n c ls := (h.below hb).more hb.size
theorem RdI.freshM (h : RdI .u8 w w.heap.size A n c us) (hb : Below w.heap.size w w') : RdI .u8 w' w'.heap.size A n c us := (h.below hb).more hb.size
theorem TabV.fresh (h : TabV w w.heap.size v t) (hb : Below w.heap.size w w') : TabV w' w'.heap.size v t := by
  obtain ⟨A1, c1, A2, c2, A3, c3, e, h1, h2, h3⟩ := h
  exact ⟨A1, c1, A2, c2, A3, c3, e, h1.freshM hb, h2.freshM hb, h3.fresh hb⟩
end

/-! ### what is no multiplicity -/
def notM (m : Int) : Bool := decide (m < 1) || decide (m > 3)
def findM {α : Type} (p : α → Bool) (l : List α) : Int := match l.findIdx? p with
  | some i => (i : Int)
  | none => -1
theorem findM_at {α : Type} {p : α → Bool} {l : List α} {i : Nat} (h : i < l.length) (hb : ∀ j (h : j < l.length), j < i → p l[j] = false) (hp : p l[i] = true) : findM p l = i := by
  have : l.findIdx? p = some i := List.findIdx?_eq_some_iff_getElem.2 ⟨h, hp, fun j hj => by simpa using hb j (by omega) hj⟩
  unfold findM
  rw [this]
theorem findM_none {α : Type} {p : α → Bool} {l : List α} (hb : ∀ j (h : j < l.length), p l[j] = false) : findM p l = -1 := by
  have : l.findIdx? p = none := List.findIdx?_eq_none_iff.2 fun x hx => by
    obtain ⟨i, hi, rfl⟩ := List.getElem_of_mem hx
    exact hb i hi
  unfold findM
  rw [this]
theorem findM_any {α : Type} (p : α → Bool) (l : List α) : decide (findM p l ≥ 0) = l.any p := by
  unfold findM
  cases h : l.findIdx? p with
  | none =>
    have := List.findIdx?_eq_none_iff.1 h
    show decide ((-1 : Int) ≥ 0) = _
    rw [List.any_eq_false.2 (fun x hx => by simpa using this x hx)]
    rfl
  | some i =>
    obtain ⟨h1, h2, _⟩ := List.findIdx?_eq_some_iff_getElem.1 h
    show decide ((i : Int) ≥ 0) = _
    rw [List.any_eq_true.2 ⟨_, List.getElem_mem h1, h2⟩]
    simp
set_option maxRecDepth 100000 in
theorem notM_any (m : Int) (w : World) : Calls Try.prog 75 #[.int .u8 m] w fun e w' => e = .returned (.bool (notM m)) ∧ w = w' := by
  have H : ∀ b, notM m = b → Hid (b = notM m) := fun b h => Lib.hid h.symm
  by_cases h1 : m < 1
  · have d1 : decide (m < 1) = true := by simpa using h1
    have HF := H true (by simp [notM, h1])
    go_enter Try.func75, Try.ntmps75
    go_wp2_with fail
    go_ret
    exact ⟨by rw [← HF.out]; rfl, rfl⟩
  · have d1 : decide (m < 1) = false := by simpa using h1
    obtain ⟨b, hb⟩ : ∃ b, decide (m > 3) = b := ⟨_, rfl⟩
    have HF := H b (by simp only [notM, d1, hb, Bool.false_or])
    go_enter Try.func75, Try.ntmps75
    go_wp2_with fail
    go_ret
    exact ⟨by rw [← HF.out]; rfl, rfl⟩

set_option maxRecDepth 100000 in
set_option maxHeartbeats 1000000 in
theorem indexMN (p : Int → Bool) (qq : Nat) (A : Option Addr) (n c : Nat) (us : List Int) (w : World) (B : Nat) (h : RdI .u8 w B A n c us)
    (he : ∀ x ∈ us, Calls Try.prog 75 (#[.int .u8 x] ++ #[]) w fun e w' => e = .returned (.bool (p x)) ∧ w = w') :
    Calls Try.prog 57 #[.slice A n c, .func (.func 75) #[] #[]] w fun e w' => e = .returned (.int .i64 (findM p us)) ∧ w = w' := by
  have hlen := h.len
  have m63 : n ≤ 9223372036854775807 := Nat.le_trans h.2.1 h.2.2
  have H := Lib.hid h
  have He := Lib.hid he
  clear h he
  go_enter Try.func57, Try.ntmps57
  go_wp2_with fail
  go_loopg [5, 8] n (fun gh _ i wr => ∃ k : Nat, k ≤ n ∧ gh = n - k ∧ i = .int .i64 k ∧ wr = w ∧ ∀ j (h : j < us.length), j < k → p us[j] = false)
  case atStart => exact ⟨0, Nat.zero_le _, rfl, rfl, rfl, fun j _ hj => absurd hj (by omega)⟩
  case round =>
    obtain ⟨k, hk, rfl, rfl, rfl, hb⟩ := hrel
    by_cases hkm : k < n
    · have d0 : decide (k < n) = true := by simpa using hkm
      have hk' : k < us.length := by omega
      obtain ⟨b, off, rfl, _, hc⟩ := H.out.at_ (by omega)
      have e0 := hc k hk'
      have Hb := Lib.hid hb
      have hq := He.out us[k] (List.getElem_mem hk')
      obtain ⟨P, hP⟩ : ∃ P, p us[k] = P := ⟨_, rfl⟩
      rw [hP] at hq
      have HP := Lib.hid hP
      have k1 : (0 : Int) ≤ (k : Int) := by omega
      have k2 : (k : Int) < n := by omega
      clear hc hb hP
      obtain ⟨y, hy⟩ : ∃ y, us[k] = y := ⟨_, rfl⟩
      rw [hy] at e0 hq
      have Hq := Lib.hid hq
      clear hy hq
      cases P with
      | true =>
        have HR : Hid ((k : Int) = findM p us) := Lib.hid (findM_at hk' Hb.out HP.out).symm
        go_wp2_with fail
        refine Hq.out.mono ?_; rintro e w1 ⟨rfl, rfl⟩
        go_wp2_with fail
        go_ret
        exact ⟨ret_int HR.out, rfl⟩
      | false =>
        have Hn : Hid (∀ j (h : j < us.length), j < k + 1 → p us[j] = false) := Lib.hid fun j hj hjk => by
          rcases Nat.lt_or_ge j k with h | h
          · exact Hb.out j hj h
          · obtain rfl : j = k := by omega
            exact HP.out
        go_wp2_with fail
        refine Hq.out.mono ?_; rintro e w1 ⟨rfl, rfl⟩
        go_wp2_with fail
        go_roundg (n - (k + 1))
        case measure => omega
        case rel => exact ⟨k + 1, by omega, rfl, by go_num, rfl, Hn.out⟩
    · have d0 : decide (k < n) = false := by simpa using hkm
      have HR : Hid ((-1 : Int) = findM p us) := Lib.hid (findM_none fun j hj => hb j hj (by omega)).symm
      clear hb
      go_wp2_with fail
      go_ret
      exact ⟨ret_int HR.out, rfl⟩
set_option maxRecDepth 100000 in
theorem containsMN (p : Int → Bool) (qq : Nat) (A : Option Addr) (n c : Nat) (us : List Int) (w : World) (B : Nat) (h : RdI .u8 w B A n c us)
    (he : ∀ x ∈ us, Calls Try.prog 75 (#[.int .u8 x] ++ #[]) w fun e w' => e = .returned (.bool (p x)) ∧ w = w') (r : Bool) (hr : us.any p = r) :
    Calls Try.prog 34 #[.slice A n c, .func (.func 75) #[] #[]] w fun e w' => e = .returned (.bool r) ∧ w = w' := by
  have hq := indexMN p 0 A n c us w B h he
  have hd := findM_any p us
  rw [hr] at hd
  obtain ⟨i, hi⟩ : ∃ i, findM p us = i := ⟨_, rfl⟩
  rw [hi] at hq hd
  have Hq := Lib.hid hq
  clear hq hr hi h he
  go_enter Try.func34, Try.ntmps34
  go_wp2_with fail
  refine Hq.out.mono ?_; rintro e w1 ⟨rfl, rfl⟩
  have Hd : Hid (decide (i ≥ 0) = r) := Lib.hid hd
  clear hd
  go_wp2_with fail
  go_ret
  exact ⟨ret_bool Hd.out, rfl⟩
/-- is something among these no multiplicity? -/
def noneB (us : List Int) : Bool := us.any notM
theorem none_any {us : List Int} {r : Bool} (hr : noneB us = r) (A : Option Addr) (n c : Nat) (w : World) (B : Nat) (h : RdI .u8 w B A n c us) :
    Calls Try.prog 59 #[.slice A n c] w fun e w' => e = .returned (.bool r) ∧ w = w' := by
  have Hq := Lib.hid (containsMN notM 0 A n c us w B h (fun x _ => by simpa using notM_any x w) r hr)
  clear h hr
  go_enter Try.func59, Try.ntmps59
  go_wp2_with fail
  refine Hq.out.mono ?_; rintro e w1 ⟨rfl, rfl⟩
  go_wp2_with fail
  go_ret
  exact ⟨rfl, rfl⟩
end Go.Proofs.Ythabkpkgocafoaa

/- Contracts: elim.May, Same, Lets at tables that may be. -/
namespace Go.Proofs.Ythabkpkgocafoaa
set_option linter.unusedVariables false
set_option linter.unusedSimpArgs false
open Go.RowKit

/-- a table that may be, of k variables -/
structure OkTab (k : Nat) (t : TabD) : Prop where
  k150 : k ≤ 150
  ll : t.low.length = k
  ul : t.up.length = k
  pl : t.pair.length = k
  nl : noneB t.low = false
  nu : noneB t.up = false
  np : ∀ l ∈ t.pair, l.length = k ∧ noneB l = false
theorem noneB_no {us : List Int} (h : ∀ i, i < us.length → 1 ≤ us.getD i 0 ∧ us.getD i 0 ≤ 3) : noneB us = false := by
  unfold noneB
  rw [List.any_eq_false]
  intro x hx
  obtain ⟨i, hi, rfl⟩ := List.getElem_of_mem hx
  have := h i hi
  rw [List.getD_eq_getElem?_getD, List.getElem?_eq_getElem hi, Option.getD_some] at this
  unfold notM
  simp
  omega
theorem noneB_rng {us : List Int} (h : noneB us = false) (i : Nat) (hi : i < us.length) : 1 ≤ us.getD i 0 ∧ us.getD i 0 ≤ 3 := by
  unfold noneB at h
  rw [List.any_eq_false] at h
  have := h us[i] (List.getElem_mem hi)
  unfold notM at this
  simp at this
  rw [List.getD_eq_getElem?_getD, List.getElem?_eq_getElem hi, Option.getD_some]
  omega
theorem TabOf.ok {k : Nat} {S : List Int → Prop} {t : TabD} (h : TabOf k S t) (hk : k ≤ 150) : OkTab k t := by
  refine ⟨hk, h.ll, h.ul, h.pl, noneB_no fun i hi => h.rl i (by rw [← h.ll]; exact hi), noneB_no fun i hi => h.ru i (by rw [← h.ul]; exact hi), fun l hl => ?_⟩
  obtain ⟨i, hi, rfl⟩ := List.getElem_of_mem hl
  have hik : i < k := by rw [← h.pl]; exact hi
  have e1 : t.pair.getD i [] = t.pair[i] := by rw [List.getD_eq_getElem?_getD, List.getElem?_eq_getElem hi]; rfl
  have hlen := h.pr i hik
  rw [e1] at hlen
  refine ⟨hlen, noneB_no fun j hj => ?_⟩
  have := h.rp i j hik (by omega)
  unfold pairE at this
  rw [e1] at this
  exact this

set_option maxRecDepth 100000 in
/-- a row of a table that may be -/
theorem rowOk_any {l : List Int} {k : Nat} (hl : l.length = k) (hn : noneB l = false) (b : Nat) (A : Option Addr) (c : Nat) (w : World) (B : Nat) (h : RdI .u8 w B A l.length c l) (hb : w.cell? ⟨b, 0, none⟩ = some (.int .i64 k)) :
    Calls Try.prog 74 #[.slice A l.length c, .pointer (some ⟨b, 0, none⟩)] w fun e w' => e = .returned (.bool false) ∧ w = w' := by
  have d0 : ((l.length : Int) != k) = false := by rw [hl]; simp
  have Hq := Lib.hid (none_any hn A l.length c w B h)
  clear hl hn h
  go_enter Try.func74, Try.ntmps74
  go_wp2_with fail
  refine Hq.out.mono ?_; rintro e w1 ⟨rfl, rfl⟩
  go_wp2_with fail
  go_ret
  exact ⟨rfl, rfl⟩
set_option maxRecDepth 100000 in
set_option maxHeartbeats 1000000 in
theorem rowsIdx_any {k : Nat} (b : Nat) (A : Option Addr) (n c : Nat) (ls : List (List Int)) (w : World) (B : Nat) (h : MssV w B A n c ls) (hok : ∀ l ∈ ls, l.length = k ∧ noneB l = false) (hb : w.cell? ⟨b, 0, none⟩ = some (.int .i64 k)) :
    Calls Try.prog 86 #[.slice A n c, .func (.func 74) #[] #[.pointer (some ⟨b, 0, none⟩)]] w fun e w' => e = .returned (.int .i64 (-1)) ∧ w = w' := by
  have hlen := h.1
  have m63 : n ≤ 9223372036854775807 := Nat.le_trans h.2.1 h.2.2.1
  have H := Lib.hid h
  have Hok := Lib.hid hok
  clear h hok
  go_enter Try.func86, Try.ntmps86
  go_wp2_with fail
  go_loopg [5, 8] n (fun gh _ i wr => ∃ k' : Nat, k' ≤ n ∧ gh = n - k' ∧ i = .int .i64 k' ∧ wr = w)
  case atStart => exact ⟨0, Nat.zero_le _, rfl, rfl, rfl⟩
  case round =>
    obtain ⟨q, hk, rfl, rfl, rfl⟩ := hrel
    by_cases hkm : q < n
    · have d0 : decide (q < n) = true := by simpa using hkm
      have hk' : q < ls.length := by omega
      obtain ⟨b', off, rfl, _, hc⟩ := H.out.2.2.2 (by omega)
      obtain ⟨A', c', e0, hr⟩ := hc q hk'
      have ho := Hok.out ls[q] (List.getElem_mem hk')
      have Hq := Lib.hid (rowOk_any ho.1 ho.2 b A' c' wr B hr hb)
      have k1 : (0 : Int) ≤ (q : Int) := by omega
      have k2 : (q : Int) < n := by omega
      clear hc hr ho
      obtain ⟨y, hy⟩ : ∃ y, ls[q].length = y := ⟨_, rfl⟩
      rw [hy] at e0 Hq
      clear hy
      go_wp2_with fail
      refine Hq.out.mono ?_; rintro e w1 ⟨rfl, rfl⟩
      go_wp2_with fail
      go_roundg (n - (q + 1))
      case measure => omega
      case rel => exact ⟨q + 1, by omega, rfl, by go_num, rfl⟩
    · have d0 : decide (q < n) = false := by simpa using hkm
      go_wp2_with fail
      go_ret
      exact ⟨rfl, rfl⟩
set_option maxRecDepth 100000 in
theorem rowsHas_any {k : Nat} (b : Nat) (A : Option Addr) (n c : Nat) (ls : List (List Int)) (w : World) (B : Nat) (h : MssV w B A n c ls) (hok : ∀ l ∈ ls, l.length = k ∧ noneB l = false) (hb : w.cell? ⟨b, 0, none⟩ = some (.int .i64 k)) :
    Calls Try.prog 73 #[.slice A n c, .func (.func 74) #[] #[.pointer (some ⟨b, 0, none⟩)]] w fun e w' => e = .returned (.bool false) ∧ w = w' := by
  have Hq := Lib.hid (rowsIdx_any b A n c ls w B h hok hb)
  clear h hok
  go_enter Try.func73, Try.ntmps73
  go_wp2_with fail
  refine Hq.out.mono ?_; rintro e w1 ⟨rfl, rfl⟩
  go_wp2_with fail
  go_ret
  exact ⟨rfl, rfl⟩
set_option maxRecDepth 100000 in
set_option maxHeartbeats 1000000 in
theorem tabMay_ok {k : Nat} {t : TabD} (hok : OkTab k t) (v : Value) (w : World) (hv : TabV w w.heap.size v t) :
    Calls Try.prog 58 #[v] w fun e w' => e = .returned (.int .i64 0) ∧ Below w.heap.size w w' := by
  obtain ⟨A1, c1, A2, c2, A3, c3, rfl, r1, r2, r3⟩ := hv
  obtain ⟨hk, ll, ul, pl, nl, nu, np⟩ := hok
  rw [ll] at r1 ⊢
  rw [ul] at r2 ⊢
  rw [pl] at r3 ⊢
  obtain ⟨W, hW⟩ : ∃ W, (w.alloc (Obj.cells #[.slice A1 k c1, .slice A2 k c2, .slice A3 k c3] 50)).alloc (Obj.cells #[.int .i64 k] 3) = W := ⟨_, rfl⟩
  have hb : Below w.heap.size w W := by rw [← hW]; exact ((Below.refl _ _).alloc (Nat.le_refl _) _).alloc (by simp) _
  have hz : W.cell? ⟨w.heap.size + 1, 0, none⟩ = some (.int .i64 k) := by
    rw [← hW]
    have := (blk_new (w.alloc (Obj.cells #[.slice A1 k c1, .slice A2 k c2, .slice A3 k c3] 50)) #[.int .i64 k] 3).cell 0
    rwa [World.size_alloc] at this
  have q1 := r1.below hb
  have q2 := r2.below hb
  have q3 := r3.below hb
  have H1 : Hid (∀ w', w' = W → Calls Try.prog 59 #[.slice A1 k c1] w' fun e w2 => e = .returned (.bool false) ∧ w' = w2) := Lib.hid fun w' h => by subst h; exact none_any nl A1 k c1 _ _ q1
  have H2 : Hid (∀ w', w' = W → Calls Try.prog 59 #[.slice A2 k c2] w' fun e w2 => e = .returned (.bool false) ∧ w' = w2) := Lib.hid fun w' h => by subst h; exact none_any nu A2 k c2 _ _ q2
  have H3 : Hid (∀ w', w' = W → Calls Try.prog 73 #[.slice A3 k c3, .func (.func 74) #[] #[.pointer (some ⟨w.heap.size + 1, 0, none⟩)]] w' fun e w2 => e = .returned (.bool false) ∧ w' = w2) := Lib.hid fun w' h => by subst h; exact rowsHas_any (k := k) (w.heap.size + 1) A3 k c3 t.pair _ _ q3 np hz
  have HW := Lib.hid hW
  have Hb := Lib.hid hb
  have d0 : decide ((k : Int) > 150) = false := by simp; omega
  clear hW hb hz r1 r2 r3 ll ul pl nl nu np q1 q2 q3
  go_enter Try.func58, Try.ntmps58
  go_wp2_with fail
  refine (H1.out _ HW.out).mono ?_; rintro e w1 ⟨rfl, rfl⟩
  go_wp2_with fail
  refine (H2.out _ HW.out).mono ?_; rintro e w1 ⟨rfl, rfl⟩
  go_wp2_with fail
  refine (H3.out _ HW.out).mono ?_; rintro e w1 ⟨rfl, rfl⟩
  go_wp2_with fail
  go_ret
  rw [HW.out]
  exact ⟨rfl, Hb.out⟩

/-! ### Same -/
set_option maxRecDepth 100000 in
theorem sameRow_any (A : Option Addr) (n c : Nat) (us : List Int) (A' : Option Addr) (n' c' : Nat) (us' : List Int) (w : World) (h : RdI .u8 w w.heap.size A n c us) (h' : RdI .u8 w w.heap.size A' n' c' us') {r : Bool} (hr : (us == us') = r) :
    Calls Try.prog 55 #[.slice A n c, .slice A' n' c'] w fun e w' => e = .returned (.bool r) ∧ Below w.heap.size w w' := by
  have Hq := Lib.hid (equalM_any A n c us A' n' c' us' w h h')
  rw [hr] at Hq
  clear h h' hr
  go_enter Try.func55, Try.ntmps55
  go_wp2_with fail
  refine Hq.out.mono ?_; rintro e w1 ⟨rfl, hb⟩
  go_wp2_with fail
  go_ret
  exact ⟨rfl, hb⟩
set_option maxRecDepth 100000 in
set_option maxHeartbeats 1000000 in
theorem sameRows_any (A : Option Addr) (n c : Nat) (ls : List (List Int)) (A' : Option Addr) (n' c' : Nat) (ls' : List (List Int)) (w : World) (h : MssV w w.heap.size A n c ls) (h' : MssV w w.heap.size A' n' c' ls') {r : Bool} (hr : decide (ls = ls') = r) :
    Calls Try.prog 54 #[.slice A n c, .slice A' n' c', .func (.func 55) #[] #[]] w fun e w' => e = .returned (.bool r) ∧ Below w.heap.size w w' := by
  have hlen := h.1
  have hlen' := h'.1
  have m63 : n ≤ 9223372036854775807 := Nat.le_trans h.2.1 h.2.2.1
  have m63' : n' ≤ 9223372036854775807 := Nat.le_trans h'.2.1 h'.2.2.1
  have H := Lib.hid h
  have H' := Lib.hid h'
  have Hr := Lib.hid hr
  clear h h' hr
  by_cases hnn : n = n'
  · subst hnn
    have dn : ((n : Int) != (n : Int)) = false := by simp
    go_enter Try.func54, Try.ntmps54
    go_wp2_with fail
    go_loopg [17] n (fun gh i wr => ∃ k : Nat, k ≤ n ∧ gh = n - k ∧ i = .int .i64 k ∧ Below w.heap.size w wr ∧ ∀ j (h : j < ls.length) (h' : j < ls'.length), j < k → ls[j] = ls'[j])
    case atStart => exact ⟨0, Nat.zero_le _, rfl, rfl, Below.refl _ _, fun j _ _ hj => absurd hj (by omega)⟩
    case round =>
      obtain ⟨k, hk, rfl, rfl, hbel, hb⟩ := hrel
      by_cases hkm : k < n
      · have d0 : decide (k < n) = true := by simpa using hkm
        have hk1 : k < ls.length := by omega
        have hk2 : k < ls'.length := by omega
        obtain ⟨b, off, rfl, hbb, hc⟩ := (H.out.fresh hbel).2.2.2 (by omega)
        obtain ⟨b', off', rfl, hbb', hc'⟩ := (H'.out.fresh hbel).2.2.2 (by omega)
        obtain ⟨Ax, cx, e0, hx⟩ := hc k hk1
        obtain ⟨Ay, cy, e1, hy⟩ := hc' k hk2
        obtain ⟨q, hq⟩ : ∃ q, (ls[k] == ls'[k]) = q := ⟨_, rfl⟩
        have Hq := Lib.hid (sameRow_any Ax _ cx ls[k] Ay _ cy ls'[k] wr hx hy hq)
        have Hbel := Lib.hid hbel
        have Hb := Lib.hid hb
        have hqe := hq
        have k1 : (0 : Int) ≤ (k : Int) := by omega
        have k2 : (k : Int) < n := by omega
        obtain ⟨x, hxx⟩ : ∃ x, ls[k].length = x := ⟨_, rfl⟩
        obtain ⟨y, hyy⟩ : ∃ y, ls'[k].length = y := ⟨_, rfl⟩
        rw [hxx] at e0 Hq
        rw [hyy] at e1 Hq
        have Hqe := Lib.hid hqe
        clear hc hc' hx hy hq hqe hbel hb hxx hyy
        cases q with
        | false =>
          have HR : Hid (false = r) := Lib.hid (by
            rw [← Hr.out, eq_comm, decide_eq_false_iff_not]
            intro e
            subst e
            have := Hqe.out
            simp at this)
          go_wp2_with fail
          refine Hq.out.mono ?_; rintro e w1 ⟨rfl, hb1⟩
          go_wp2_with fail
          go_ret
          exact ⟨ret_bool HR.out, Hbel.out.trans (hb1.mono Hbel.out.size)⟩
        | true =>
          go_wp2_with fail
          refine Hq.out.mono ?_; rintro e w1 ⟨rfl, hb1⟩
          go_wp2_with fail
          go_roundg (n - (k + 1))
          case measure => omega
          case rel => exact ⟨k + 1, by omega, rfl, by go_num, Hbel.out.trans (hb1.mono Hbel.out.size), fun j h1 h2 hj => by
            rcases Nat.lt_or_ge j k with h | h
            · exact Hb.out j h1 h2 h
            · obtain rfl : j = k := by omega
              simpa using Hqe.out⟩
      · have d0 : decide (k < n) = false := by simpa using hkm
        have HR : Hid (true = r) := Lib.hid (by
          rw [← Hr.out, eq_comm, decide_eq_true_iff]
          exact List.ext_getElem (by omega) fun j h1 h2 => hb j h1 h2 (by omega))
        have Hbel := Lib.hid hbel
        clear hb hbel
        go_wp2_with fail
        go_ret
        exact ⟨ret_bool HR.out, Hbel.out⟩
  · have dn : ((n : Int) != (n' : Int)) = true := by simp; omega
    have HR : Hid (false = r) := Lib.hid (by
      rw [← Hr.out, eq_comm, decide_eq_false_iff_not]
      intro e
      subst e
      omega)
    go_enter Try.func54, Try.ntmps54
    go_wp2_with fail
    go_ret
    exact ⟨ret_bool HR.out, Below.refl _ _⟩
theorem tab_eq (t u : TabD) : decide (t = u) = (t.low == u.low && t.up == u.up && decide (t.pair = u.pair)) := by
  cases t with
  | mk a b c =>
    cases u with
    | mk a' b' c' =>
      rw [Bool.eq_iff_iff]
      simp [and_assoc]
set_option maxRecDepth 100000 in
set_option maxHeartbeats 1000000 in
theorem tabSame_any {t u : TabD} {r : Bool} (hr : decide (t = u) = r) (v v' : Value) (w : World) (hv : TabV w w.heap.size v t) (hv' : TabV w w.heap.size v' u) :
    Calls Try.prog 29 #[v, v'] w fun e w' => e = .returned (.bool r) ∧ Below w.heap.size w w' := by
  obtain ⟨A1, c1, A2, c2, A3, c3, rfl, r1, r2, r3⟩ := hv
  obtain ⟨D1, d1, D2, d2, D3, d3, rfl, s1, s2, s3⟩ := hv'
  rw [tab_eq] at hr
  obtain ⟨b1, h1⟩ : ∃ b, (t.low == u.low) = b := ⟨_, rfl⟩
  obtain ⟨b2, h2⟩ : ∃ b, (t.up == u.up) = b := ⟨_, rfl⟩
  obtain ⟨b3, h3⟩ : ∃ b, decide (t.pair = u.pair) = b := ⟨_, rfl⟩
  rw [h1, h2, h3] at hr
  obtain ⟨n1, e1⟩ : ∃ n, t.low.length = n := ⟨_, rfl⟩
  obtain ⟨n2, e2⟩ : ∃ n, t.up.length = n := ⟨_, rfl⟩
  obtain ⟨n3, e3⟩ : ∃ n, t.pair.length = n := ⟨_, rfl⟩
  obtain ⟨m1, f1⟩ : ∃ n, u.low.length = n := ⟨_, rfl⟩
  obtain ⟨m2, f2⟩ : ∃ n, u.up.length = n := ⟨_, rfl⟩
  obtain ⟨m3, f3⟩ : ∃ n, u.pair.length = n := ⟨_, rfl⟩
  rw [e1] at r1 ⊢
  rw [e2] at r2 ⊢
  rw [e3] at r3 ⊢
  rw [f1] at s1 ⊢
  rw [f2] at s2 ⊢
  rw [f3] at s3 ⊢
  obtain ⟨W, hW⟩ : ∃ W, (w.alloc (Obj.cells #[.slice A1 n1 c1, .slice A2 n2 c2, .slice A3 n3 c3] 50)).alloc (Obj.cells #[.slice D1 m1 d1, .slice D2 m2 d2, .slice D3 m3 d3] 50) = W := ⟨_, rfl⟩
  have hb : Below w.heap.size w W := by rw [← hW]; exact ((Below.refl _ _).alloc (Nat.le_refl _) _).alloc (by simp) _
  have hz : Blk W w.heap.size 50 #[.slice A1 n1 c1, .slice A2 n2 c2, .slice A3 n3 c3] := by rw [← hW]; exact (blk_new w _ _).alloc _
  have hy : Blk W (w.heap.size + 1) 50 #[.slice D1 m1 d1, .slice D2 m2 d2, .slice D3 m3 d3] := by
    rw [← hW]
    have := blk_new (w.alloc (Obj.cells #[.slice A1 n1 c1, .slice A2 n2 c2, .slice A3 n3 c3] 50)) #[.slice D1 m1 d1, .slice D2 m2 d2, .slice D3 m3 d3] 50
    rwa [World.size_alloc] at this
  have H1 := Lib.hid (equalM_any A1 n1 c1 t.low D1 m1 d1 u.low W (r1.freshM hb) (s1.freshM hb))
  rw [h1] at H1
  have R2 := Lib.hid (r2.freshM hb)
  have S2 := Lib.hid (s2.freshM hb)
  have R3 := Lib.hid (r3.fresh hb)
  have S3 := Lib.hid (s3.fresh hb)
  have HW := Lib.hid hW
  have Hb := Lib.hid hb
  have Hz := Lib.hid hz
  have Hy := Lib.hid hy
  have Hh2 := Lib.hid h2
  have Hh3 := Lib.hid h3
  clear hW hb hz hy r1 r2 r3 s1 s2 s3 e1 e2 e3 f1 f2 f3 h1 h2 h3
  cases b1 with
  | false =>
    have HR : Hid (false = r) := Lib.hid (by simpa using hr)
    clear hr
    go_enter Try.func29, Try.ntmps29
    go_wp2_with fail
    rw [HW.out]
    refine H1.out.mono ?_; rintro e w1 ⟨rfl, hb1⟩
    go_wp2_with fail
    go_ret
    exact ⟨ret_bool HR.out, Hb.out.trans (hb1.mono Hb.out.size)⟩
  | true =>
    go_enter Try.func29, Try.ntmps29
    go_wp2_with fail
    rw [HW.out]
    refine H1.out.mono ?_; rintro e w1 ⟨rfl, hb1⟩
    have hz1 := Hz.out.below hb1 Hz.out.lt
    have hy1 := Hy.out.below hb1 Hy.out.lt
    have z1 := hz1.cell 1
    have z2 := hz1.cell 2
    have y1 := hy1.cell 1
    have y2 := hy1.cell 2
    have hq := equalM_any A2 n2 c2 t.up D2 m2 d2 u.up w1 (R2.out.freshM hb1) (S2.out.freshM hb1)
    rw [Hh2.out] at hq
    have Hq := Lib.hid hq
    have Hb1 := Lib.hid hb1
    clear hq hb1 hz1 hy1 H1
    cases b2 with
    | false =>
      have HR : Hid (false = r) := Lib.hid (by simpa using hr)
      clear hr
      go_wp2_with fail
      refine Hq.out.mono ?_; rintro e w2 ⟨rfl, hb2⟩
      go_wp2_with fail
      go_ret
      exact ⟨ret_bool HR.out, Hb.out.trans ((Hb1.out.trans (hb2.mono Hb1.out.size)).mono Hb.out.size)⟩
    | true =>
      have HR : Hid (b3 = r) := Lib.hid (by simpa using hr)
      clear hr
      go_wp2_with fail
      refine Hq.out.mono ?_; rintro e w2 ⟨rfl, hb2⟩
      have q2 := (hb2.cell (p := ⟨w.heap.size, 2, none⟩) (by have := Hz.out.lt; have := Hb1.out.size; show w.heap.size < _; omega)).trans z2
      have p2 := (hb2.cell (p := ⟨w.heap.size + 1, 2, none⟩) (by have := Hy.out.lt; have := Hb1.out.size; show w.heap.size + 1 < _; omega)).trans y2
      have hbb := Hb1.out.trans (hb2.mono Hb1.out.size)
      have Hq3 := Lib.hid (sameRows_any A3 n3 c3 t.pair D3 m3 d3 u.pair w2 (R3.out.fresh hbb) (S3.out.fresh hbb) Hh3.out)
      have Hbb := Lib.hid (Hb.out.trans (hbb.mono Hb.out.size))
      clear z1 z2 y1 y2 hb2 hbb Hq
      go_wp2_with fail
      refine Hq3.out.mono ?_; rintro e w3 ⟨rfl, hb3⟩
      go_wp2_with fail
      go_ret
      exact ⟨ret_bool HR.out, Hbb.out.trans (hb3.mono Hbb.out.size)⟩
end Go.Proofs.Ythabkpkgocafoaa

/- The contract of elim.Lets at tables that may be. -/
namespace Go.Proofs.Ythabkpkgocafoaa
set_option linter.unusedVariables false
set_option linter.unusedSimpArgs false
open Go.RowKit

def LetsA (k : Nat) (t : TabD) (a : List Int) : Prop := a.length = k ∧ noneB a = false ∧ LetsE k t a
def RowL (k : Nat) (t : TabD) (a : List Int) (i : Nat) : Prop := t.low.getD i 0 ≤ a.getD i 0 ∧ a.getD i 0 ≤ t.up.getD i 0 ∧ ∀ j, j < k → a.getD i 0 ≤ max (pairE t i j) (a.getD j 0)
theorem getD_at {us : List Int} {i : Nat} (h : i < us.length) : us.getD i 0 = us[i] := by rw [List.getD_eq_getElem?_getD, List.getElem?_eq_getElem h]; rfl
/-- what Lets tells -/
def LetsPost (k : Nat) (t : TabD) (asg : List Int) (w : World) (e : Ending) (w' : World) : Prop := ∃ b, e = .returned (.bool b) ∧ (b = true ↔ LetsA k t asg) ∧ Below w.heap.size w w'
theorem LetsPost.of {k : Nat} {t : TabD} {asg : List Int} {w w' : World} {b : Bool} (h : b = true ↔ LetsA k t asg) (hb : Below w.heap.size w w') : LetsPost k t asg w (.returned (.bool b)) w' := ⟨b, rfl, h, hb⟩
set_option maxRecDepth 100000 in
set_option maxHeartbeats 2000000 in
theorem tabLets_any {k : Nat} {t : TabD} (hok : OkTab k t) (v : Value) (Aa : Option Addr) (na ca : Nat) (asg : List Int) (w : World) (hv : TabV w w.heap.size v t) (ha : RdI .u8 w w.heap.size Aa na ca asg) :
    Calls Try.prog 36 #[v, .slice Aa na ca] w (LetsPost k t asg w) := by
  have hM := fun W h => tabMay_ok hok v W h
  have hv0 := hv
  obtain ⟨A1, c1, A2, c2, A3, c3, rfl, r1, r2, r3⟩ := hv
  have hla := ha.len
  have hnp := hok.np
  have ll := hok.ll
  have ul := hok.ul
  have pl := hok.pl
  have hk := hok.k150
  have na63 : na ≤ 9223372036854775807 := Nat.le_trans ha.2.1 ha.2.2
  obtain ⟨W, hW⟩ : ∃ W, w.alloc (Obj.cells #[.slice A1 t.low.length c1, .slice A2 t.up.length c2, .slice A3 t.pair.length c3] 50) = W := ⟨_, rfl⟩
  have hb := below_box (w := w) (Obj.cells #[.slice A1 t.low.length c1, .slice A2 t.up.length c2, .slice A3 t.pair.length c3] 50)
  have hz := blk_new w #[.slice A1 t.low.length c1, .slice A2 t.up.length c2, .slice A3 t.pair.length c3] 50
  rw [hW] at hb hz
  have Hq := Lib.hid (hM W (hv0.fresh hb))
  have R1 := Lib.hid (r1.freshM hb)
  have R2 := Lib.hid (r2.freshM hb)
  have R3 := Lib.hid (r3.fresh hb)
  have Ra := Lib.hid (ha.freshM hb)
  rw [ll] at R1 hW hz Hq ⊢
  rw [ul] at R2 hW hz Hq ⊢
  rw [pl] at R3 hW hz Hq ⊢
  have HW := Lib.hid hW
  have Hb := Lib.hid hb
  have Hz := Lib.hid hz
  have Hnp := Lib.hid hnp
  have hpl := pl
  have hmx := @run_max2 Try.prog
  clear hM hv0 r1 r2 r3 ha hW hb hz hnp hok
  go_enter Try.func36, Try.ntmps36
  go_wp2_with fail
  rw [HW.out]
  refine Hq.out.mono ?_; rintro e w1 ⟨rfl, hb1⟩
  have hz1 := Hz.out.below hb1 Hz.out.lt
  have z0 := hz1.cell 0
  have z1 := hz1.cell 1
  have z2 := hz1.cell 2
  replace R1 := Lib.hid (R1.out.freshM hb1)
  replace R2 := Lib.hid (R2.out.freshM hb1)
  replace R3 := Lib.hid (R3.out.fresh hb1)
  replace Ra := Lib.hid (Ra.out.freshM hb1)
  have HbF := Lib.hid (Hb.out.trans (hb1.mono Hb.out.size))
  clear hb1 hz1 Hq
  by_cases hnk : na = k
  case neg =>
    have d1 : ((na : Int) != k) = true := by simp; omega
    have HN : Hid (false = true ↔ LetsA k t asg) := Lib.hid ⟨fun h => Bool.noConfusion h, fun h => absurd h.1 (by omega)⟩
    go_wp2_with fail
    go_ret
    exact LetsPost.of (b := false) HN.out HbF.out
  subst hnk
  have d1 : ((na : Int) != (na : Int)) = false := by simp
  obtain ⟨q, hq⟩ : ∃ q, noneB asg = q := ⟨_, rfl⟩
  have Hnq := Lib.hid hq
  have Hq := Lib.hid (none_any hq Aa na ca w1 _ Ra.out)
  clear hq
  go_wp2_with fail
  refine Hq.out.mono ?_; rintro e w2 ⟨rfl, rfl⟩
  cases q with
  | true =>
    have HN : Hid (false = true ↔ LetsA na t asg) := Lib.hid ⟨fun h => Bool.noConfusion h, fun h => by have := h.2.1; rw [Hnq.out] at this; cases this⟩
    go_wp2_with fail
    go_ret
    exact LetsPost.of (b := false) HN.out HbF.out
  | false =>
  go_wp2_with fail
  go_loopg [26] na (fun gh i wr => ∃ j : Nat, j ≤ na ∧ gh = na - j ∧ i = .int .i64 j ∧ wr = w1 ∧ ∀ i, i < j → RowL na t asg i)
  case atStart => exact ⟨0, Nat.zero_le _, rfl, rfl, rfl, fun i hi => absurd hi (by omega)⟩
  case round =>
    obtain ⟨i, hi, rfl, rfl, rfl, hrows⟩ := hrel
    by_cases hik : i < na
    · have d2 : decide (i < na) = true := by simpa using hik
      obtain ⟨ba, oa, rfl, _, hca⟩ := Ra.out.at_ (by omega)
      obtain ⟨b1, o1, rfl, _, hc1⟩ := R1.out.at_ (by omega)
      obtain ⟨b2, o2, rfl, _, hc2⟩ := R2.out.at_ (by omega)
      obtain ⟨b3, o3, rfl, _, hc3⟩ := R3.out.2.2.2 (by omega)
      have ea := hca i (by omega)
      have e1 := hc1 i (by omega)
      have e2 := hc2 i (by omega)
      have hi3 : i < t.pair.length := by omega
      obtain ⟨Ap, cp, e3, hrp⟩ := hc3 i hi3
      have hpo := Hnp.out t.pair[i] (List.getElem_mem hi3)
      rw [hpo.1] at e3 hrp
      obtain ⟨m, hm⟩ : ∃ m, asg.getD i 0 = m := ⟨_, rfl⟩
      obtain ⟨lo, hlo⟩ : ∃ m, t.low.getD i 0 = m := ⟨_, rfl⟩
      obtain ⟨u, hu⟩ : ∃ m, t.up.getD i 0 = m := ⟨_, rfl⟩
      rw [← getD_at, hm] at ea
      rw [← getD_at, hlo] at e1
      rw [← getD_at, hu] at e2
      have Hm := Lib.hid hm
      have Hlo := Lib.hid hlo
      have Hu := Lib.hid hu
      have Hrows := Lib.hid hrows
      have Hrp := Lib.hid hrp
      have Hca := Lib.hid hca
      have Hpe : Hid (∀ j, pairE t i j = t.pair[i].getD j 0) := Lib.hid fun j => by
        unfold pairE
        rw [List.getD_eq_getElem?_getD (l := t.pair), List.getElem?_eq_getElem hi3]; rfl
      obtain ⟨pr, hpr⟩ : ∃ p, t.pair[i] = p := ⟨_, rfl⟩
      rw [hpr] at Hrp Hpe
      have k1 : (0 : Int) ≤ (i : Int) := by omega
      have k2 : (i : Int) < na := by omega
      have hll1 : (i : Int) < t.low.length := by omega
      clear hm hlo hu hrows hrp hca hc1 hc2 hc3 hpo hpr
      by_cases h1 : m < lo
      · have d3 : decide (m < lo) = true := by simpa using h1
        have HN : Hid (false = true ↔ LetsA na t asg) := Lib.hid ⟨fun h => Bool.noConfusion h, fun h => by
          have := (h.2.2 i hik).1
          rw [Hm.out, Hlo.out] at this
          omega⟩
        clear h1
        go_wp2_with fail
        go_ret
        exact LetsPost.of (b := false) HN.out HbF.out
      have d3 : decide (m < lo) = false := by simpa using h1
      by_cases h2 : m > u
      · have d4 : decide (m > u) = true := by simpa using h2
        have HN : Hid (false = true ↔ LetsA na t asg) := Lib.hid ⟨fun h => Bool.noConfusion h, fun h => by
          have := (h.2.2 i hik).2.1
          rw [Hm.out, Hu.out] at this
          omega⟩
        clear h1 h2
        go_wp2_with fail
        go_ret
        exact LetsPost.of (b := false) HN.out HbF.out
      have d4 : decide (m > u) = false := by simpa using h2
      have Hlu : Hid (lo ≤ m ∧ m ≤ u) := Lib.hid (by omega)
      clear h1 h2
      go_wp2_with fail
      go_loopg [53] na (fun gh i' wr2 => ∃ j : Nat, j ≤ na ∧ gh = na - j ∧ i' = .int .i64 j ∧ wr2 = wr ∧ ∀ l, l < j → m ≤ max (pr.getD l 0) (asg.getD l 0))
      case atStart => exact ⟨0, Nat.zero_le _, rfl, rfl, rfl, fun l hl => absurd hl (by omega)⟩
      case round =>
        obtain ⟨j, hj, rfl, rfl, rfl, hcol⟩ := hrel
        by_cases hjk : j < na
        · have d5 : decide (j < na) = true := by simpa using hjk
          have hprl := Hrp.out.len
          obtain ⟨bp, op, rfl, _, hcp⟩ := Hrp.out.at_ (by omega)
          have e4 := hcp j (by omega)
          have e5 := Hca.out j (by omega)
          obtain ⟨cj, hcj⟩ : ∃ m, pr.getD j 0 = m := ⟨_, rfl⟩
          obtain ⟨aj, haj⟩ : ∃ m, asg.getD j 0 = m := ⟨_, rfl⟩
          rw [← getD_at, hcj] at e4
          rw [← getD_at, haj] at e5
          have Hcj := Lib.hid hcj
          have Haj := Lib.hid haj
          have Hcol := Lib.hid hcol
          have k3 : (0 : Int) ≤ (j : Int) := by omega
          have k4 : (j : Int) < na := by omega
          clear hcj haj hcol hcp
          by_cases h3 : m > max cj aj
          · have d6 : decide (m > max cj aj) = true := by simpa using h3
            have HN : Hid (false = true ↔ LetsA na t asg) := Lib.hid ⟨fun h => Bool.noConfusion h, fun h => by
              have := (h.2.2 i hik).2.2 j hjk
              rw [Hm.out, Hpe.out, Hcj.out, Haj.out] at this
              omega⟩
            clear h3
            go_wp2_with fail
            go_ret
            exact LetsPost.of (b := false) HN.out HbF.out
          · have d6 : decide (m > max cj aj) = false := by simpa using h3
            have Hc2 : Hid (∀ l, l < j + 1 → m ≤ max (pr.getD l 0) (asg.getD l 0)) := Lib.hid fun l hl => by
              rcases Nat.lt_or_ge l j with h | h
              · exact Hcol.out l h
              · obtain rfl : l = j := by omega
                rw [Hcj.out, Haj.out]; omega
            clear h3
            go_wp2_with fail
            go_roundg (na - (j + 1))
            case measure => omega
            case rel => exact ⟨j + 1, by omega, rfl, by go_num, rfl, Hc2.out⟩
        · have d5 : decide (j < na) = false := by simpa using hjk
          have Hr2 : Hid (∀ i', i' < i + 1 → RowL na t asg i') := Lib.hid fun i' hi' => by
            rcases Nat.lt_or_ge i' i with h | h
            · exact Hrows.out i' h
            · obtain rfl : i' = i := by omega
              refine ⟨by rw [Hm.out, Hlo.out]; exact Hlu.out.1, by rw [Hm.out, Hu.out]; exact Hlu.out.2, fun l hl => ?_⟩
              rw [Hm.out, Hpe.out]
              exact hcol l (by omega)
          clear hcol
          go_wp2_with fail
          go_roundg (na - (i + 1))
          case measure => omega
          case rel => exact ⟨i + 1, by omega, rfl, by go_num, rfl, Hr2.out⟩
    · have d2 : decide (i < na) = false := by simpa using hik
      have HN : Hid (true = true ↔ LetsA na t asg) := Lib.hid ⟨fun _ => ⟨hla, Hnq.out, fun i' hi' => hrows i' (by omega)⟩, fun _ => rfl⟩
      clear hrows
      go_wp2_with fail
      go_ret
      exact LetsPost.of (b := true) (by have := HN.out; simpa using this) HbF.out
end Go.Proofs.Ythabkpkgocafoaa

