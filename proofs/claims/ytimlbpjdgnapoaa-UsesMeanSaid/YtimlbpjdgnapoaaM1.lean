/- Texts of this claim, laid one behind the other: Base, Mult, TermB, TermDef, App, Mem, TermA, TermIs. -/
import Derived.WalkKit
import Derived.WalkSpells
import Derived.WalkLawsBesides
import Derived.OpenShut
import Derived.Deep.Draws
import Derived.Lib.Hide
import Derived.Deep.LoopGhost
import Derived.Deep.RegionWith
import Derived.Test.YtimlbpjdgnapoaaProg
import Derived.Lib.SlicesCompact
import Derived.Maps.AppendAt
import Derived.Deep.AppendLies
import Derived.RegionTactic
import Derived.OwnWalk
import Derived.Lib.OwnBridge
/- Words for memory that all proofs of this seat share: a slice that reads as a list of cells. No program in sight but for its imports. -/
namespace Go.Proofs.Ytimlbpjdgnapoaa
set_option linter.unusedVariables false
set_option linter.unusedSimpArgs false
open Go.RowKit

theorem ret_int {k : IntKind} {a b : Int} (h : a = b) : Ending.returned (.int k a) = .returned (.int k b) := by rw [h]
theorem ret_bool {a b : Bool} (h : a = b) : Ending.returned (.bool a) = .returned (.bool b) := by rw [h]

/-- max and min of two integers in a walk: one value, no parting -/
theorem run_max2 {P : Program} (ts : Array TypeId) (t : TypeId) (k k' : IntKind) (x y : Int) (w : World) : (Builtin.max_ ts t #[.int k x, .int k' y]).run P w = .ok (.int k (max x y)) w := by
  rw [run_max_int2]
  congr 2
  omega
theorem run_min2 {P : Program} (ts : Array TypeId) (t : TypeId) (k k' : IntKind) (x y : Int) (w : World) : (Builtin.min_ ts t #[.int k x, .int k' y]).run P w = .ok (.int k (min x y)) w := by
  rw [run_min_int2]
  congr 2
  omega

theorem v_int {k : IntKind} {a b : Int} (h : a = b) : Value.int k a = .int k b := by rw [h]
theorem v_bool {a b : Bool} (h : a = b) : Value.bool a = .bool b := by rw [h]
theorem ret_two {a b a' b' : Value} (h1 : a = a') (h2 : b = b') : Ending.returned (.tuple #[a, b]) = .returned (.tuple #[a', b']) := by rw [h1, h2]

/-- equality of texts, as the walk says it -/
theorem str_inj {a b : ByteArray} (h : a.toList = b.toList) : a = b := by
  rw [ByteArray.toList_eq, ByteArray.toList_eq] at h
  exact ByteArray.ext (Array.toList_inj.mp h)
theorem str_eq {a b : ByteArray} : (a.toList == b.toList) = decide (a = b) := by
  by_cases h : a = b
  · subst h; simp
  · have : ¬ a.toList = b.toList := fun e => h (str_inj e)
    simp [h, this]

/-- a counter's measure goes down -/
theorem meas {n k : Nat} (h : k < n) : n - (intOf (.int .i64 ((k : Int) + 1))).toNat < n - (intOf (.int .i64 (k : Int))).toNat := by
  show n - ((k : Int) + 1).toNat < n - (k : Int).toNat
  omega

/-- the slice value '.slice A n c' holds the cells xs ('size' cells an element), below block B -/
def Rd (w : World) (B size : Nat) (A : Option Addr) (n : Nat) (xs : List Value) : Prop :=
  xs.length = n * size ∧ (0 < n → ∃ b off, A = some ⟨b, off, none⟩ ∧ b < B ∧ ∀ j u, xs[j]? = some u → w.cell? ⟨b, off + j, none⟩ = some u)

section
variable {w w' : World} {B B' size n : Nat} {A : Option Addr} {xs : List Value}
theorem Rd.nil : Rd w B size A 0 [] := ⟨by simp, fun h => absurd h (by omega)⟩
theorem Rd.keep (h : Rd w B size A n xs) (hk : ∀ p : Addr, p.block < B → w'.cell? p = w.cell? p) : Rd w' B size A n xs :=
  ⟨h.1, fun hn => by
    obtain ⟨b, off, e, hb, hc⟩ := h.2 hn
    exact ⟨b, off, e, hb, fun j u hu => (hk _ hb).trans (hc j u hu)⟩⟩
theorem Rd.more (h : Rd w B size A n xs) (hB : B ≤ B') : Rd w B' size A n xs :=
  ⟨h.1, fun hn => by
    obtain ⟨b, off, e, hb, hc⟩ := h.2 hn
    exact ⟨b, off, e, by omega, hc⟩⟩
theorem Rd.below (h : Rd w B size A n xs) (hb : Below B w w') : Rd w' B size A n xs := h.keep fun _ hp => hb.cell hp
theorem Rd.drew (h : Rd w B size A n xs) : Rd w.drew B size A n xs := h
theorem Rd.drewN (h : Rd w B size A n xs) (k : Nat) : Rd (w.drewN k) B size A n xs := h
theorem Rd.alloc (h : Rd w B size A n xs) (hB : B ≤ w.heap.size) (o : Obj) : Rd (w.alloc o) B size A n xs := h.keep fun p hp => World.cell?_alloc_lt w o p (by omega)
theorem Rd.setCell (h : Rd w B size A n xs) {p : Addr} (hB : B ≤ p.block) (u : Value) : Rd (w.setCell p u) B size A n xs :=
  h.keep fun q hq => World.cell?_setCell_other w p q u (fun e => by subst e; omega)
theorem Rd.grown (h : Rd w B size A n xs) {row : Option Nat} (hg : w.grownBy w' row) (hB : B ≤ w.heap.size) (hr : ∀ g, row = some g → B ≤ g) : Rd w' B size A n xs :=
  h.keep fun p hp => World.cell?_of_block (hg.block p.block (by omega) (fun e => by have := hr _ e.symm; omega))
end

/-- what a call does to the world, behind what has been done ahead of it -/
theorem stepB {w0 w w1 : World} (h : Below w0.heap.size w0 w) (k : Below w.heap.size w w1) : Below w0.heap.size w0 w1 := h.trans (k.mono h.size)
theorem stepA {w0 w w1 : World} (h : Below w0.heap.size w0 w) (o : Obj) (k : Below (w.alloc o).heap.size (w.alloc o) w1) : Below w0.heap.size w0 w1 :=
  (h.alloc h.size o).trans (k.mono (Nat.le_trans h.size (by simp)))

/-- a slice that the walk has just laid -/
theorem Rd.new (w : World) (l : List Value) (t : TypeId) : Rd (w.alloc (.cells l.toArray t)) (w.heap.size + 1) 1 (some ⟨w.heap.size, 0, none⟩) l.length l :=
  ⟨by simp, fun _ => ⟨w.heap.size, 0, rfl, Nat.lt_succ_self _, fun j u hu => by rw [Nat.zero_add, World.cell?_alloc_new]; simpa using hu⟩⟩

end Go.Proofs.Ytimlbpjdgnapoaa

/- Contracts of package mult's functions: what each call returns, the world unchanged or grown by new blocks. -/
namespace Go.Proofs.Ytimlbpjdgnapoaa
set_option linter.unusedVariables false
set_option linter.unusedSimpArgs false
open Go.RowKit

/-- a multiplicity that is one -/
def nearI (m : Int) : Int := if m ≤ 1 then 1 else if m ≤ 3 then m else 3
theorem nearI_lo (m : Int) : 1 ≤ nearI m := by unfold nearI; split <;> (try split) <;> omega
theorem nearI_hi (m : Int) : nearI m ≤ 3 := by unfold nearI; split <;> (try split) <;> omega
theorem nearI_eq (m : Int) : min (max m 1) 3 = nearI m := by unfold nearI; split <;> (try split) <;> omega

theorem near_any (m : Int) (w : World) :
    Calls Try.prog 66 #[.int .u8 m] w fun e w' => e = .returned (.int .u8 (nearI m)) ∧ w = w' := by
  have hmx := @run_max2 Try.prog
  have hmn := @run_min2 Try.prog
  go_enter Try.func66, Try.ntmps66
  go_wp2
  go_ret
  exact ⟨ret_int (nearI_eq m), rfl⟩
def scaleI (m u : Int) : Int := if u = 0 then 0 else max (min u 3) (nearI m)
theorem scale_any (m u : Int) (w : World) :
    Calls Try.prog 39 #[.int .u8 m, .int .u8 u] w fun e w' => e = .returned (.int .u8 (scaleI m u)) ∧ w = w' := by
  have hmx := @run_max2 Try.prog
  have hmn := @run_min2 Try.prog
  by_cases h : u = 0
  · have hb : (u == 0) = true := by simp [h]
    go_enter Try.func39, Try.ntmps39
    go_wp2_with fail
    go_ret
    exact ⟨ret_int (by simp [scaleI, h]), rfl⟩
  · have hb : (u == 0) = false := by simp [h]
    go_enter Try.func39, Try.ntmps39
    go_wp2_with (go_at_call 66; refine (near_any _ _).mono ?_; rintro e w' ⟨rfl, rfl⟩)
    go_ret
    exact ⟨ret_int (by simp [scaleI, h]), rfl⟩
def leastI (u : Int) : Int := if u = 0 then 2 else nearI u
theorem leastI_lo (m : Int) : 1 ≤ leastI m := by have := nearI_lo m; unfold leastI; split <;> omega
theorem leastI_hi (m : Int) : leastI m ≤ 3 := by have := nearI_hi m; unfold leastI; split <;> omega
theorem least_any (u : Int) (w : World) :
    Calls Try.prog 40 #[.int .u8 u] w fun e w' => e = .returned (.int .u8 (leastI u)) ∧ w = w' := by
  by_cases h : u = 0
  · have hb : (u == 0) = true := by simp [h]
    go_enter Try.func40, Try.ntmps40
    go_wp2_with fail
    go_ret
    exact ⟨ret_int (by simp [leastI, h]), rfl⟩
  · have hb : (u == 0) = false := by simp [h]
    go_enter Try.func40, Try.ntmps40
    go_wp2_with (go_at_call 66; refine (near_any _ _).mono ?_; rintro e w' ⟨rfl, rfl⟩)
    go_ret
    exact ⟨ret_int (by simp [leastI, h]), rfl⟩

/-- joined: the greatest, at least AtMost where one is Never and another is not -/
def joinM (us : List Int) : Int := us.foldl (fun a u => max a (min u 3)) 0
def joinN (us : List Int) : Bool := us.foldl (fun b u => b || u == 0) false
def joinI (us : List Int) : Int := if joinN us && joinM us != 0 then max (joinM us) 2 else joinM us
def sumI (us : List Int) : Int := us.foldl (fun a u => if u = 0 then a else if a = 0 then min u 3 else 3) 0

theorem joinM_snoc (us : List Int) (u : Int) : joinM (us ++ [u]) = max (joinM us) (min u 3) := by simp [joinM, List.foldl_append]
theorem joinN_snoc (us : List Int) (u : Int) : joinN (us ++ [u]) = (joinN us || u == 0) := by simp [joinN, List.foldl_append]
theorem sumI_snoc (us : List Int) (u : Int) : sumI (us ++ [u]) = (if u = 0 then sumI us else if sumI us = 0 then min u 3 else 3) := by
  unfold sumI
  rw [List.foldl_append]
  rfl
theorem take_succ_int (us : List Int) (k : Nat) (h : k < us.length) : us.take (k + 1) = us.take k ++ [us[k]] := by
  rw [List.take_succ_eq_append_getElem h]

--@IF f{usufruct/mult.Join}
set_option maxHeartbeats 400000 in
theorem join_any (A : Option Addr) (n c B : Nat) (us : List Int) (w : World) (hr : Rd w B 1 A n (us.map (Value.int .u8))) (hn : n ≤ 9223372036854775807) :
    Calls Try.prog 36 #[.slice A n c] w fun e w' => e = .returned (.int .u8 (joinI us)) ∧ w = w' := by
  have hmx := @run_max2 Try.prog
  have hmn := @run_min2 Try.prog
  have hlen : us.length = n := by simpa using hr.1
  have Hlen := Lib.hid hlen
  clear hlen
  go_enter Try.func36, Try.ntmps36
  go_wp2_with fail
  go_loop [3, 4, 9] (fun m b i => ∃ k : Nat, k ≤ n ∧ i = .int .i64 k ∧ m = .int .u8 (joinM (us.take k)) ∧ b = .bool (joinN (us.take k))) (fun _ _ i => n - (intOf i).toNat)
  case atStart => exact ⟨0, Nat.zero_le _, rfl, rfl, rfl⟩
  case round =>
    obtain ⟨k, hk, rfl, rfl, rfl⟩ := hrel
    by_cases hlt : k < n
    · obtain ⟨b, off, rfl, hb, hc⟩ := hr.2 (by omega)
      have hk' : k < us.length := by rw [Hlen.out]; exact hlt
      have hcell : w.cell? ⟨b, off + k, none⟩ = some (.int .u8 us[k]) := hc k _ (by simp [hk'])
      have HM : Hid (joinM (us.take (k + 1)) = max (joinM (us.take k)) (min us[k] 3)) := by show _ = _; rw [take_succ_int us k hk', joinM_snoc]
      have HN : Hid (joinN (us.take (k + 1)) = (joinN (us.take k) || us[k] == 0)) := by show _ = _; rw [take_succ_int us k hk', joinN_snoc]
      clear hc
      go_wp2_with fail
      all_goals
        go_round
        case rel => exact ⟨k + 1, by omega, by go_num, by rw [HM.out], by rw [HN.out]; simp [*]⟩
        case measure => simp [intOf]; omega
    · have e : us.take k = us := List.take_of_length_le (by rw [Hlen.out]; omega)
      simp only [e]
      by_cases h1 : joinN us = true
      · by_cases h2 : joinM us = 0
        · have h3 : (joinM us != 0) = false := by simp [h2]
          have Hf : Hid (joinM us = joinI us) := by show _ = _; simp [joinI, h2]
          clear h2
          go_wp2_with fail
          go_ret
          exact ⟨ret_int Hf.out, rfl⟩
        · have h3 : (joinM us != 0) = true := by simp [h2]
          have Hf : Hid (max (joinM us) 2 = joinI us) := by show _ = _; simp [joinI, h1, h2]
          clear h2
          go_wp2_with fail
          go_ret
          exact ⟨ret_int Hf.out, rfl⟩
      · have h1' : joinN us = false := by simpa using h1
        have Hf : Hid (joinM us = joinI us) := by show _ = _; simp [joinI, h1']
        clear h1
        go_wp2_with fail
        go_ret
        exact ⟨ret_int Hf.out, rfl⟩
--@ENDIF

--@IF f{usufruct/mult.Sum}
set_option maxHeartbeats 400000 in
theorem sum_any (A : Option Addr) (n c B : Nat) (us : List Int) (w : World) (hr : Rd w B 1 A n (us.map (Value.int .u8))) (hn : n ≤ 9223372036854775807) :
    Calls Try.prog 37 #[.slice A n c] w fun e w' => e = .returned (.int .u8 (sumI us)) ∧ w = w' := by
  have hmx := @run_max2 Try.prog
  have hmn := @run_min2 Try.prog
  have hlen : us.length = n := by simpa using hr.1
  have Hlen := Lib.hid hlen
  clear hlen
  go_enter Try.func37, Try.ntmps37
  go_wp2_with fail
  go_loop [3, 8] (fun m i => ∃ k : Nat, k ≤ n ∧ i = .int .i64 k ∧ m = .int .u8 (sumI (us.take k))) (fun _ i => n - (intOf i).toNat)
  case atStart => exact ⟨0, Nat.zero_le _, rfl, rfl⟩
  case round =>
    obtain ⟨k, hk, rfl, rfl⟩ := hrel
    by_cases hlt : k < n
    · obtain ⟨b, off, rfl, hb, hc⟩ := hr.2 (by omega)
      have hk' : k < us.length := by rw [Hlen.out]; exact hlt
      have hcell : w.cell? ⟨b, off + k, none⟩ = some (.int .u8 us[k]) := hc k _ (by simp [hk'])
      have HM : Hid (sumI (us.take (k + 1)) = (if us[k] = 0 then sumI (us.take k) else if sumI (us.take k) = 0 then min us[k] 3 else 3)) := by show _ = _; rw [take_succ_int us k hk', sumI_snoc]
      clear hc
      go_wp2_with fail
      all_goals
        go_round
        case rel => exact ⟨k + 1, by omega, by go_num, by rw [HM.out]; simp_all⟩
        case measure => simp [intOf]; omega
    · have e : us.take k = us := List.take_of_length_le (by rw [Hlen.out]; omega)
      simp only [e]
      go_wp2_with fail
      go_ret
      exact ⟨rfl, rfl⟩
--@ENDIF

end Go.Proofs.Ytimlbpjdgnapoaa

/- Terms in memory: what a value, a cell, a slice of them reads as. No function of the program. -/
namespace Go.Proofs.Ytimlbpjdgnapoaa
set_option linter.unusedVariables false
set_option linter.unusedSimpArgs false
open Go.RowKit

/-- a term -/
structure TermD where
  never : Bool
  c : Int
  vars : List Int

/-- a slice of ints: '.slice A n c' reads as us, below block B -/
def RdI (k : IntKind) (w : World) (B : Nat) (A : Option Addr) (n c : Nat) (us : List Int) : Prop :=
  Rd w B 1 A n (us.map (Value.int k)) ∧ n ≤ c ∧ c ≤ maxLen

section
variable {k : IntKind} {w w' : World} {B B' n c : Nat} {A : Option Addr} {us : List Int}
theorem RdI.len (h : RdI k w B A n c us) : us.length = n := by simpa using h.1.1
theorem RdI.nil : RdI k w B none 0 0 [] := ⟨Rd.nil, Nat.le_refl _, Nat.zero_le _⟩
theorem RdI.keep (h : RdI k w B A n c us) (hk : ∀ p : Addr, p.block < B → w'.cell? p = w.cell? p) : RdI k w' B A n c us := ⟨h.1.keep hk, h.2⟩
theorem RdI.more (h : RdI k w B A n c us) (hB : B ≤ B') : RdI k w B' A n c us := ⟨h.1.more hB, h.2⟩
theorem RdI.below (h : RdI k w B A n c us) (hb : Below B w w') : RdI k w' B A n c us := h.keep fun _ hp => hb.cell hp
theorem RdI.cell (h : RdI k w B A n c us) {i : Nat} (hi : i < n) : ∃ b off, A = some ⟨b, off, none⟩ ∧ b < B ∧ w.cell? ⟨b, off + i, none⟩ = some (.int k (us[i]'(by rw [h.len]; exact hi))) := by
  obtain ⟨b, off, e, hb, hc⟩ := h.1.2 (by omega)
  exact ⟨b, off, e, hb, hc i _ (by simp [h.len, hi])⟩
theorem RdI.at_ (h : RdI k w B A n c us) (hn : 0 < n) : ∃ b off, A = some ⟨b, off, none⟩ ∧ b < B ∧ ∀ i (hi : i < us.length), w.cell? ⟨b, off + i, none⟩ = some (.int k us[i]) := by
  obtain ⟨b, off, e, hb, hc⟩ := h.1.2 hn
  exact ⟨b, off, e, hb, fun i hi => hc i _ (by simp [hi])⟩
end

/-- a term by value -/
def TermV (w : World) (B : Nat) (v : Value) (t : TermD) : Prop :=
  ∃ A n c, v = .agg #[.bool t.never, .int .u8 t.c, .slice A n c] ∧ RdI .i64 w B A n c t.vars
/-- a term in three cells -/
def TermAt (w : World) (B b off : Nat) (t : TermD) : Prop :=
  ∃ A n c, w.cell? ⟨b, off, none⟩ = some (.bool t.never) ∧ w.cell? ⟨b, off + 1, none⟩ = some (.int .u8 t.c) ∧ w.cell? ⟨b, off + 2, none⟩ = some (.slice A n c) ∧ RdI .i64 w B A n c t.vars
/-- a slice of terms -/
def TermsV (w : World) (B : Nat) (A : Option Addr) (n c : Nat) (ts : List TermD) : Prop :=
  ts.length = n ∧ n ≤ c ∧ c ≤ maxLen ∧ (0 < n → ∃ b off, A = some ⟨b, off, none⟩ ∧ b < B ∧ ∀ i (h : i < ts.length), TermAt w B b (off + i * 3) ts[i])

section
variable {w w' : World} {B B' : Nat} {v : Value} {t : TermD}
theorem TermV.keep (h : TermV w B v t) (hk : ∀ p : Addr, p.block < B → w'.cell? p = w.cell? p) : TermV w' B v t := by
  obtain ⟨A, n, c, e, hr⟩ := h
  exact ⟨A, n, c, e, hr.keep hk⟩
theorem TermV.more (h : TermV w B v t) (hB : B ≤ B') : TermV w B' v t := by
  obtain ⟨A, n, c, e, hr⟩ := h
  exact ⟨A, n, c, e, hr.more hB⟩
theorem TermV.below (h : TermV w B v t) (hb : Below B w w') : TermV w' B v t := h.keep fun _ hp => hb.cell hp
theorem TermAt.keep {b off : Nat} (h : TermAt w B b off t) (hb : b < B) (hk : ∀ p : Addr, p.block < B → w'.cell? p = w.cell? p) : TermAt w' B b off t := by
  obtain ⟨A, n, c, e1, e2, e3, hr⟩ := h
  exact ⟨A, n, c, (hk _ hb).trans e1, (hk _ hb).trans e2, (hk _ hb).trans e3, hr.keep hk⟩
theorem TermAt.more {b off : Nat} (h : TermAt w B b off t) (hB : B ≤ B') : TermAt w B' b off t := by
  obtain ⟨A, n, c, e1, e2, e3, hr⟩ := h
  exact ⟨A, n, c, e1, e2, e3, hr.more hB⟩
theorem TermAt.val {b off : Nat} (h : TermAt w B b off t) : ∃ A n c, w.cell? ⟨b, off, none⟩ = some (.bool t.never) ∧ w.cell? ⟨b, off + 1, none⟩ = some (.int .u8 t.c) ∧ w.cell? ⟨b, off + 2, none⟩ = some (.slice A n c) ∧
    TermV w B (.agg #[.bool t.never, .int .u8 t.c, .slice A n c]) t := by
  obtain ⟨A, n, c, e1, e2, e3, hr⟩ := h
  exact ⟨A, n, c, e1, e2, e3, A, n, c, rfl, hr⟩
theorem TermsV.keep {A : Option Addr} {n c : Nat} {ts : List TermD} (h : TermsV w B A n c ts) (hk : ∀ p : Addr, p.block < B → w'.cell? p = w.cell? p) : TermsV w' B A n c ts := by
  obtain ⟨h1, h2, h3, h4⟩ := h
  refine ⟨h1, h2, h3, fun hn => ?_⟩
  obtain ⟨b, off, e, hb, hc⟩ := h4 hn
  exact ⟨b, off, e, hb, fun i hi => (hc i hi).keep hb hk⟩
theorem TermsV.more {A : Option Addr} {n c : Nat} {ts : List TermD} (h : TermsV w B A n c ts) (hB : B ≤ B') : TermsV w B' A n c ts := by
  obtain ⟨h1, h2, h3, h4⟩ := h
  refine ⟨h1, h2, h3, fun hn => ?_⟩
  obtain ⟨b, off, e, hb, hc⟩ := h4 hn
  exact ⟨b, off, e, by omega, fun i hi => (hc i hi).more hB⟩
theorem TermsV.below {A : Option Addr} {n c : Nat} {ts : List TermD} (h : TermsV w B A n c ts) (hb : Below B w w') : TermsV w' B A n c ts := h.keep fun _ hp => hb.cell hp
theorem TermsV.nil : TermsV w B none 0 0 [] := ⟨rfl, Nat.le_refl _, Nat.zero_le _, fun h => absurd h (by omega)⟩
end

/-- facts on old cells, for the walk, behind a call that makes blocks -/
theorem bcell {W w1 : World} (hb : Below W.heap.size W w1) : (∀ b o, b < W.heap.size → w1.cell? ⟨b, o, none⟩ = W.cell? ⟨b, o, none⟩) := fun b o h => hb.cell (p := ⟨b, o, none⟩) h

end Go.Proofs.Ytimlbpjdgnapoaa

/- What package term computes, as plain functions of lists and integers. No program's function. -/
namespace Go.Proofs.Ytimlbpjdgnapoaa
set_option linter.unusedVariables false
set_option linter.unusedSimpArgs false
open Go.RowKit

def oneB (m : Int) : Bool := decide (1 ≤ m) && decide (m ≤ 3)
/-- is the variable at i one that may stand there? -/
def varB (l : List Int) (i : Nat) : Bool := decide (0 ≤ l.getD i 0) && decide (l.getD i 0 < 1048576) && (decide (i = 0) || decide (l.getD (i - 1) 0 < l.getD i 0))
def varsB (l : List Int) : Nat → Bool
  | 0 => true
  | k + 1 => varsB l k && varB l k
def mayB (t : TermD) : Bool :=
  if t.never then t.c == 0 && t.vars.isEmpty
  else oneB t.c && !(t.c == 3 && !t.vars.isEmpty) && varsB t.vars t.vars.length
def mayE (t : TermD) : Int := if mayB t then 0 else 2
theorem mayE_yes {t : TermD} (h : mayB t = true) : mayE t = 0 := by simp [mayE, h]
theorem mayE_no {t : TermD} (h : mayB t = false) : mayE t = 2 := by simp [mayE, h]
/-- the variables of a list, in order, each once -/
def sset (vs : List Int) : List Int := Lib.compact (vs.mergeSort fun x y => decide (x ≤ y))
def cleanT (c : Int) (vs : List Int) : TermD := ⟨false, c, if c = 3 ∨ vs = [] then [] else sset vs⟩
def someT (ts : List TermD) : List TermD := ts.filter fun t => !t.never
def joinC0 (ts : List TermD) : Int := if (someT ts).length < ts.length then 2 else 1
def joinCs (c : Int) (l : List TermD) : Int := l.foldl (fun a t => max a t.c) c
def joinVs (l : List TermD) : List Int := l.flatMap (·.vars)
def joinT (ts : List TermD) : TermD := if someT ts = [] then ⟨true, 0, []⟩ else cleanT (joinCs (joinC0 ts) (someT ts)) (joinVs (someT ts))
def zeroT : TermD := ⟨false, 0, []⟩
def sumT (ts : List TermD) : TermD :=
  match someT ts with
  | [] => ⟨true, 0, []⟩
  | [t] => cleanT t.c t.vars
  | _ => ⟨false, 3, []⟩
def sameB (a b : TermD) : Bool := a.never == b.never && a.c == b.c && a.vars == b.vars
theorem sameB_iff (a b : TermD) : sameB a b = true ↔ a = b := by
  cases a; cases b
  simp [sameB, and_assoc]
def isB (c v : Int) : Bool := c == 0 && decide (0 ≤ v) && decide (v < 1048576) || oneB c && v == 0
def isE (c v : Int) : Int := if isB c v then 0 else 2
theorem isE_yes {c v : Int} (h : isB c v = true) : isE c v = 0 := by simp [isE, h]
theorem isE_no {c v : Int} (h : isB c v = false) : isE c v = 2 := by simp [isE, h]
def ofT (u : Int) : TermD := if u = 0 then ⟨true, 0, []⟩ else ⟨false, leastI u, []⟩
def leastT (t : TermD) : TermD := if t.never then ⟨false, 2, []⟩ else t
def atV (asg : List Int) (v : Int) : Int := asg.getD v.toNat 0
def okV (asg : List Int) (v : Int) : Bool := decide (v < asg.length) && oneB (atV asg v)
def atGo (asg : List Int) : Int → List Int → Int × Int
  | u, [] => (u, 0)
  | u, v :: r => if okV asg v then atGo asg (scaleI (atV asg v) u) r else (0, 5)
def atR (t : TermD) (asg : List Int) : Int × Int := if mayB t then atGo asg t.c t.vars else (0, 2)
def scaleT (c v : Int) (t : TermD) : TermD := if t.never then t else if c = 0 then cleanT t.c (t.vars ++ [v]) else cleanT (max c t.c) t.vars

/-- the call returns the term t -/
def RetT (t : TermD) (w : World) (e : Ending) (w' : World) : Prop :=
  ∃ A n c, e = .returned (.agg #[.bool t.never, .int .u8 t.c, .slice A n c]) ∧ RdI .i64 w' w'.heap.size A n c t.vars ∧ Below w.heap.size w w'
/-- the call returns the term t and the error x -/
def RetTE (t : TermD) (x : Int) (w : World) (e : Ending) (w' : World) : Prop :=
  ∃ A n c, e = .returned (.tuple #[.agg #[.bool t.never, .int .u8 t.c, .slice A n c], .int .i64 x]) ∧ RdI .i64 w' w'.heap.size A n c t.vars ∧ Below w.heap.size w w'

end Go.Proofs.Ytimlbpjdgnapoaa

/- append onto a row of the call's own, the source nil, empty or not: a law for a plain list of operations and one for a step of a region that draws its order. -/
namespace Go.Proofs.Ytimlbpjdgnapoaa
set_option linter.unusedVariables false
set_option linter.unusedSimpArgs false
open Go.RowKit

section
variable {P : Program} (w : World)

theorem run_append_of_nil (base : Nat) (t ty e : TypeId) (i : TypeInfo) (size : Nat) (ht : P.underlying t = some (.slice e)) (hi : P.info? e = some i)
    (v : Value) (n : Nat) (xs : List Value) (hown : w.ownsRow base e size v n xs) (c : Nat) : (Builtin.append_ #[t, t] ty #[v, .slice none 0 c]).run P w = .ok v w := by
  rcases hown.2 with ⟨rfl, rfl⟩ | ⟨g, cap, cur, rfl, _, _, hnc, _⟩
  · simp [Builtin.append_, run_underlying ht, sizeOf, typeInfo, hi, Builtin.lenOf, Builtin.firstCells]
  · simp [Builtin.append_, run_underlying ht, sizeOf, typeInfo, hi, Builtin.lenOf, Builtin.firstCells, hnc, storeCells]

theorem run_append_rd (base : Nat) (t ty e : TypeId) (i : TypeInfo) (z : Value) (size bytes : Nat) (ht : P.underlying t = some (.slice e)) (hi : P.info? e = some i) (hz : i.zero = some z)
    (hsize : i.size = size) (hby : i.bytes = bytes) (hzs : z.cells.size = size) (hsz : 0 < size)
    (v : Value) (n : Nat) (xs : List Value) (hown : w.ownsRow base e size v n xs)
    (B : Nat) (A : Option Addr) (m c : Nat) (news : List Value) (hr : Rd w B size A m news) (h1 : ∀ u ∈ news, u.oneCell' = true)
    (h63 : n + m ≤ maxLen) (hbytes : (n + m) * bytes ≤ 140737488355328) (hbase : base ≤ w.heap.size) :
    ∃ v' w', (Builtin.append_ #[t, t] ty #[v, .slice A m c]).run P w = .ok v' w' ∧ w'.ownsRow base e size v' (n + m) (xs ++ news) ∧ w.grownBy w' v.ownBlock ∧
      (v'.ownBlock = v.ownBlock ∨ v'.ownBlock = some w.heap.size) := by
  rcases A with _ | ad
  · have hm : m = 0 := by
      rcases Nat.eq_zero_or_pos m with h0 | h0
      · exact h0
      · obtain ⟨_, _, h, _⟩ := hr.2 h0
        cases h
    subst hm
    have hn : news = [] := List.eq_nil_of_length_eq_zero (by simpa using hr.1)
    subst hn
    exact ⟨v, w, run_append_of_nil w base t ty e i size ht hi v n xs hown c, by simpa using hown, World.grownBy.refl w _, .inl rfl⟩
  · have hcells : ∀ j u, news[j]? = some u → w.cell? (ad.add j) = some u := by
      intro j u hu
      rcases Nat.eq_zero_or_pos m with h0 | h0
      · subst h0
        have hn : news = [] := List.eq_nil_of_length_eq_zero (by simpa using hr.1)
        subst hn
        simp at hu
      · obtain ⟨b, off, h, _, hc⟩ := hr.2 h0
        injection h with h
        subst h
        rw [show (Addr.add ⟨b, off, none⟩ j) = ⟨b, off + j, none⟩ from by unfold Addr.add; split <;> simp_all]
        exact hc j u hu
    obtain ⟨v', w', hrun, h2, h3, _, h5⟩ := run_append_own_at (P := P) w base t ty e i z size bytes ht hi hz hsize hby hzs hsz v n xs hown ad m c news hr.1 hcells h1 h63 hbytes hbase
    exact ⟨v', w', hrun, h2, h3, h5⟩

theorem wp_append_rd {o : Oper} {a : Act} {K : Act → World → Prop} {Q : Exit → Act → World → Prop} (s x : Operand) (t : TypeId)
    (ho : o.op = .call { callee := .builtin .append, args := #[s, x], argTypes := #[t, t] })
    (base : Nat) (e : TypeId) (i : TypeInfo) (z : Value) (size bytes : Nat) (ht : P.underlying t = some (.slice e)) (hi : P.info? e = some i) (hz : i.zero = some z)
    (hsize : i.size = size) (hby : i.bytes = bytes) (hzs : z.cells.size = size) (hsz : 0 < size)
    (v : Value) (n : Nat) (xs : List Value) (hs : a.eval s = v) (hown : w.ownsRow base e size v n xs)
    (B : Nat) (A : Option Addr) (m c : Nat) (news : List Value) (hx : a.eval x = .slice A m c) (hr : Rd w B size A m news) (h1 : ∀ u ∈ news, u.oneCell' = true)
    (h63 : n + m ≤ maxLen) (hbytes : (n + m) * bytes ≤ 140737488355328) (hbase : base ≤ w.heap.size)
    (h : ∀ v' w', w'.ownsRow base e size v' (n + m) (xs ++ news) → w.grownBy w' v.ownBlock → (v'.ownBlock = v.ownBlock ∨ v'.ownBlock = some w.heap.size) → K (a.put o.dst v') w') : o.wp P a w K Q := by
  obtain ⟨v', w', hrun, h2, h3, h4⟩ := run_append_rd (P := P) w base t o.type e i z size bytes ht hi hz hsize hby hzs hsz v n xs hown B A m c news hr h1 h63 hbytes hbase
  unfold Oper.wp execOp
  simp only [ho, resolve, invoke, builtin, Sem.run_bind, Sem.run_pure, Result.andThen_ok, List.map_toArray, List.map_cons, List.map_nil, hs, hx, hrun]
  exact h v' w' h2 h3 h4

theorem wpList_append_rd {ops : Array Oper} {rest : List Oper} {o : Oper} {a : Act} {Q : Exit → Act → World → Prop} (hgd : o.guard = none) (s x : Operand) (t : TypeId)
    (ho : o.op = .call { callee := .builtin .append, args := #[s, x], argTypes := #[t, t] })
    (base : Nat) (e : TypeId) (i : TypeInfo) (z : Value) (size bytes : Nat) (ht : P.underlying t = some (.slice e)) (hi : P.info? e = some i) (hz : i.zero = some z)
    (hsize : i.size = size) (hby : i.bytes = bytes) (hzs : z.cells.size = size) (hsz : 0 < size)
    (v : Value) (n : Nat) (xs : List Value) (hs : a.eval s = v) (hown : w.ownsRow base e size v n xs)
    (B : Nat) (A : Option Addr) (m c : Nat) (news : List Value) (hx : a.eval x = .slice A m c) (hr : Rd w B size A m news) (h1 : ∀ u ∈ news, u.oneCell' = true)
    (h63 : n + m ≤ maxLen) (hbytes : (n + m) * bytes ≤ 140737488355328) (hbase : base ≤ w.heap.size)
    (h : ∀ v' w', w'.ownsRow base e size v' (n + m) (xs ++ news) → w.grownBy w' v.ownBlock → (v'.ownBlock = v.ownBlock ∨ v'.ownBlock = some w.heap.size) → wpList P ops Q rest (a.put o.dst v') w') : wpList P ops Q (o :: rest) a w :=
  wpList_plain hgd fun _ hK => wp_append_rd w s x t ho base e i z size bytes ht hi hz hsize hby hzs hsz v n xs hs hown B A m c news hx hr h1 h63 hbytes hbase fun v' w' h2 h3 h4 => hK _ _ (h v' w' h2 h3 h4)

theorem step_append_rd {ops : Array Oper} {o : Oper} {a : Act} {K : Act → World → Prop} {Q : Exit → Act → World → Prop} {E : Prop} (hgd : o.guard = none) (s x : Operand) (t : TypeId)
    (ho : o.op = .call { callee := .builtin .append, args := #[s, x], argTypes := #[t, t] })
    (base : Nat) (e : TypeId) (i : TypeInfo) (z : Value) (size bytes : Nat) (ht : P.underlying t = some (.slice e)) (hi : P.info? e = some i) (hz : i.zero = some z)
    (hsize : i.size = size) (hby : i.bytes = bytes) (hzs : z.cells.size = size) (hsz : 0 < size)
    (v : Value) (n : Nat) (xs : List Value) (hs : a.eval s = v) (hown : w.ownsRow base e size v n xs)
    (B : Nat) (A : Option Addr) (m c : Nat) (news : List Value) (hx : a.eval x = .slice A m c) (hr : Rd w B size A m news) (h1 : ∀ u ∈ news, u.oneCell' = true)
    (h63 : n + m ≤ maxLen) (hbytes : (n + m) * bytes ≤ 140737488355328) (hbase : base ≤ w.heap.size)
    (h : ∀ v' w', w'.ownsRow base e size v' (n + m) (xs ++ news) → w.grownBy w' v.ownBlock → (v'.ownBlock = v.ownBlock ∨ v'.ownBlock = some w.heap.size) → K (a.put o.dst v') w') :
    if Region.wanted o (yielded ops a.tmps) = true then Oper.wp P o a w K Q else E := by
  have hw : Region.wanted o (yielded ops a.tmps) = true := by simp [Region.wanted, hgd]
  rw [if_pos hw]
  exact wp_append_rd w s x t ho base e i z size bytes ht hi hz hsize hby hzs hsz v n xs hs hown B A m c news hx hr h1 h63 hbytes hbase h
end

end Go.Proofs.Ytimlbpjdgnapoaa

/- Words for memory that the contracts share: whole blocks, rows of the call's own, stores of a struct. No program's function. -/
namespace Go.Proofs.Ytimlbpjdgnapoaa
set_option linter.unusedVariables false
set_option linter.unusedSimpArgs false
open Go.RowKit

/-- what a slice of the call's own reads as -/
theorem RdI.of_own {k : IntKind} {w : World} {base : Nat} {e : TypeId} {A : Option Addr} {n c : Nat} {us : List Int} (h : w.ownsRow base e 1 (.slice A n c) n (us.map (Value.int k))) : RdI k w w.heap.size A n c us := by
  rcases h.2 with ⟨e0, hn⟩ | ⟨g, cap, cur, e0, hb, hg, hn, hm, hs, ht⟩
  · injection e0 with e1 e2 e3
    subst e1; subst e2; subst e3
    have : us = [] := by
      have := h.1
      simp at this
      exact this
    subst this
    exact RdI.nil
  · injection e0 with e1 e2 e3
    subst e1; subst e3
    refine ⟨⟨h.1, fun hn0 => ⟨g, 0, rfl, (Array.getElem?_eq_some_iff.1 hg).1, fun j u hu => ?_⟩⟩, hn, hm⟩
    have := h.cells (g := g) rfl j u hu
    rw [show (Addr.add ⟨g, 0, none⟩ j) = ⟨g, 0 + j, none⟩ from by unfold Addr.add; split <;> simp_all] at this
    exact this
/-- block g is just the cells cs of element type t, none frozen -/
def Blk (w : World) (g : Nat) (t : TypeId) (cs : Array Value) : Prop := w.heap[g]? = some (.cells cs t (0, 0))
section
variable {w w' : World} {g : Nat} {t : TypeId} {cs : Array Value}
theorem Blk.lt (h : Blk w g t cs) : g < w.heap.size := (Array.getElem?_eq_some_iff.1 h).1
theorem Blk.cell (h : Blk w g t cs) (i : Nat) : w.cell? ⟨g, i, none⟩ = cs[i]? := cell_of_row w g i cs t (0, 0) h
theorem Blk.frozen (h : Blk w g t cs) (i : Nat) : w.frozen? ⟨g, i, none⟩ = false := by
  unfold Blk at h
  simp [World.frozen?, h]
theorem Blk.set_ (h : Blk w g t cs) (i : Nat) (u : Value) : Blk (w.setCell ⟨g, i, none⟩ u) g t (cs.setIfInBounds i u) := by
  unfold Blk at h ⊢
  simp [World.setCell, Array.getElem?_modify, h]
theorem Blk.set3 {x0 x1 x2 : Value} (h : Blk w g t #[x0, x1, x2]) (y0 y1 y2 : Value) : Blk (((w.setCell ⟨g, 0, none⟩ y0).setCell ⟨g, 1, none⟩ y1).setCell ⟨g, 2, none⟩ y2) g t #[y0, y1, y2] :=
  ((h.set_ 0 y0).set_ 1 y1).set_ 2 y2
theorem Blk.below {B : Nat} (h : Blk w g t cs) (hb : Below B w w') (hg : g < B) : Blk w' g t cs := (hb.block g hg).trans h
theorem Blk.grown {row : Option Nat} (h : Blk w g t cs) (hb : w.grownBy w' row) (hg : some g ≠ row) : Blk w' g t cs := (hb.block g h.lt hg).trans h
end
theorem below_grown {w w1 : World} (h : Below w.heap.size w w1) : w.grownBy w1 none := ⟨h.os, h.tape, h.output, h.size, fun k hk _ => h.block k hk⟩
/-- clear of a slice whose elements are of several cells -/
theorem run_clear_cells {P : Program} (w : World) (t e ty : TypeId) (z : Value) (zs : Array Value) (ht : P.underlying t = some (.slice e)) (hv : ∀ w, (zeroValue e).run P w = .ok z w) (hz : z.cells = zs) (h1 : ∀ u ∈ zs, u.oneCell' = true) (hzn : 0 < zs.size) (b o n c : Nat) (hn : 0 < n)
    (hc : ∀ j, j < n * zs.size → (w.cell? ⟨b, o + j, none⟩).isSome = true) (hf : ∀ j, j < n * zs.size → w.frozen? ⟨b, o + j, none⟩ = false) :
    (Builtin.clear_ #[t] ty #[.slice (some ⟨b, o, none⟩) n c]).run P w = .ok (.tuple #[]) (w.setCells b o (Builtin.zeroCells zs n).toList) := by
  have hlen : (Builtin.zeroCells zs n).toList.length = n * zs.size := by rw [Array.length_toList, size_zeroCells]
  have hst := run_storeCells_cells (P := P) b o (Builtin.zeroCells zs n).toList 0 w (by rw [hlen]; simpa using hc) (by rw [hlen]; simpa using hf) (by
    intro v hv'
    rw [Array.mem_toList_iff] at hv'
    unfold Builtin.zeroCells at hv'
    rw [Array.mem_map] at hv'
    obtain ⟨i, _, rfl⟩ := hv'
    have hi : i % zs.size < zs.size := Nat.mod_lt _ hzn
    rw [getElem!_pos zs _ hi]
    exact h1 _ (Array.getElem_mem hi))
  simp only [Nat.add_zero] at hst
  obtain ⟨m, rfl⟩ : ∃ m, n = m + 1 := ⟨n - 1, by omega⟩
  simp [Builtin.clear_, run_underlying ht, hv, hz, hst]
theorem ownsRow_cut {w : World} {base : Nat} {e : TypeId} {size g n c i : Nat} {cs : List Value} (h : w.ownsRow base e size (.slice (some ⟨g, 0, none⟩) n c) n cs) (hi : i ≤ n) :
    w.ownsRow base e size (.slice (some ⟨g, 0, none⟩) i c) i (cs.take (i * size)) := by
  have hm : i * size ≤ n * size := Nat.mul_le_mul_right _ hi
  refine ⟨by rw [List.length_take, h.1]; omega, ?_⟩
  rcases h.2 with ⟨e0, _⟩ | ⟨g', cap, cur, e0, hb, hg, hn, hcm, hs, ht⟩
  · cases e0
  · refine .inr ⟨g', cap, cur, ?_, hb, hg, by omega, hcm, hs, ?_⟩
    · injection e0 with e1 e2 e3
      rw [e1, e3]
    · rw [← ht, List.take_take]
      congr 1
      omega
theorem ownsRow_setCells {base : Nat} {e : TypeId} {size g n c : Nat} : ∀ (vs : List Value) (cs : List Value) (o : Nat) (w : World), w.ownsRow base e size (.slice (some ⟨g, 0, none⟩) n c) n cs →
    ∃ cs', (w.setCells g o vs).ownsRow base e size (.slice (some ⟨g, 0, none⟩) n c) n cs' ∧ (∀ k, k < o → cs'[k]? = cs[k]?) ∧ w.grownBy (w.setCells g o vs) (some g)
  | [], cs, o, w, h => ⟨cs, h, fun _ _ => rfl, World.grownBy.refl w _⟩
  | v :: vs, cs, o, w, h => by
    obtain ⟨h1, h2⟩ := h.stored o v
    obtain ⟨cs', h3, h4, h5⟩ := ownsRow_setCells vs (cs.set o v) (o + 1) _ h1
    refine ⟨cs', h3, fun k hk => ?_, ?_⟩
    · rw [h4 k (by omega), List.getElem?_set_ne (by omega)]
    · exact ⟨h5.os.trans h2.os, h5.tape.trans h2.tape, h5.output.trans h2.output, Nat.le_trans h2.size h5.size, fun k hk hne => (h5.block k (Nat.lt_of_lt_of_le hk h2.size) hne).trans (h2.block k hk hne)⟩
/-- a slice of ints does not lie in a block that holds a term -/
theorem RdI.put3 {w : World} {B : Nat} {A : Option Addr} {n c : Nat} {us : List Int} {g : Nat} {t : TypeId} {x : Bool} {y : Int} {a : Option Addr} {m d : Nat}
    (h : RdI .i64 w B A n c us) (hs : Blk w g t #[.bool x, .int .u8 y, .slice a m d]) (v0 v1 v2 : Value) :
    RdI .i64 (((w.setCell ⟨g, 0, none⟩ v0).setCell ⟨g, 1, none⟩ v1).setCell ⟨g, 2, none⟩ v2) B A n c us := by
  refine ⟨⟨h.1.1, fun hn => ?_⟩, h.2⟩
  obtain ⟨b, off, e, hb, hc⟩ := h.1.2 hn
  have hne : b ≠ g := by
    rintro rfl
    have h0 : 0 < us.length := by rw [h.len]; exact hn
    have := hc 0 (.int .i64 us[0]) (by simp [h0])
    rw [hs.cell] at this
    generalize off + 0 = k at this
    match k, this with
    | 0, this => simp at this
    | 1, this => simp at this
    | 2, this => simp at this
    | k + 3, this => simp at this
  refine ⟨b, off, e, hb, fun j u hu => ?_⟩
  rw [World.cell?_setCell_other _ _ _ _ (fun e => hne (by injection e with e; exact e.symm)), World.cell?_setCell_other _ _ _ _ (fun e => hne (by injection e with e; exact e.symm)), World.cell?_setCell_other _ _ _ _ (fun e => hne (by injection e with e; exact e.symm))]
  exact hc j u hu
theorem set3_other (w : World) {b g : Nat} (o : Nat) (h : b ≠ g) (v0 v1 v2 : Value) : (((w.setCell ⟨g, 0, none⟩ v0).setCell ⟨g, 1, none⟩ v1).setCell ⟨g, 2, none⟩ v2).cell? ⟨b, o, none⟩ = w.cell? ⟨b, o, none⟩ := by
  rw [World.cell?_setCell_other _ _ _ _ (fun e => h (by injection e with e; exact e.symm)), World.cell?_setCell_other _ _ _ _ (fun e => h (by injection e with e; exact e.symm)), World.cell?_setCell_other _ _ _ _ (fun e => h (by injection e with e; exact e.symm))]
theorem below_box {w : World} (o : Obj) : Below w.heap.size w (w.alloc o) := (Below.refl _ _).alloc (Nat.le_refl _) _
theorem below_drewN_t {B : Nat} {a w : World} (h : Below B a w) (n : Nat) : Below B a (w.drewN n) := ⟨h.os, h.tape, h.output, h.size, h.block⟩
theorem Blk.other {w : World} {g g' : Nat} {t : TypeId} {cs : Array Value} (h : Blk w g t cs) (hg : g' ≠ g) (i : Nat) (u : Value) : Blk (w.setCell ⟨g', i, none⟩ u) g t cs := by
  unfold Blk at h ⊢
  simp [World.setCell, Array.getElem?_modify, h, hg]
theorem blk_new (w : World) (cs : Array Value) (t : TypeId) : Blk (w.alloc (Obj.cells cs t)) w.heap.size t cs := heap_alloc_new w _
theorem Blk.alloc {w : World} {g : Nat} {t : TypeId} {cs : Array Value} (h : Blk w g t cs) (o : Obj) : Blk (w.alloc o) g t cs := by
  show (w.alloc o).heap[g]? = _
  rw [Below.heap_alloc _ _ _ h.lt]
  exact h
theorem rd_new1 (w : World) (v : Value) (t : TypeId) : Rd (w.alloc (Obj.cells #[v] t)) (w.heap.size + 1) 1 (some ⟨w.heap.size, 0, none⟩) 1 [v] := by
  refine ⟨rfl, fun _ => ⟨w.heap.size, 0, rfl, Nat.lt_succ_self _, fun j u hu => ?_⟩⟩
  have h := (blk_new w #[v] t).cell (0 + j)
  rw [h, Nat.zero_add]
  match j, hu with
  | 0, hu => exact hu
theorem own_slice {w : World} {base : Nat} {e : TypeId} {v : Value} {n : Nat} {us : List Int} {x : Int} (h : w.ownsRow base e 1 v n (us.map (Value.int .i64) ++ [.int .i64 x])) : ∃ A c, v = .slice A n c ∧ RdI .i64 w w.heap.size A n c (us ++ [x]) := by
  have h' : w.ownsRow base e 1 v n ((us ++ [x]).map (Value.int .i64)) := by rw [List.map_append]; exact h
  obtain ⟨A, c, rfl⟩ : ∃ A c, v = .slice A n c := by
    rcases h.2 with ⟨e0, hn0⟩ | ⟨g, cap, cur, e0, _⟩
    · exact ⟨none, 0, by rw [e0, hn0]⟩
    · exact ⟨some ⟨g, 0, none⟩, cap, e0⟩
  exact ⟨A, c, rfl, RdI.of_own h'⟩

/-- the call returns a slice of ints of its own making, or one that came in -/
def RetI (k : IntKind) (us : List Int) (w : World) (e : Ending) (w' : World) : Prop :=
  ∃ A n c, e = .returned (.slice A n c) ∧ RdI k w' w'.heap.size A n c us ∧ Below w.heap.size w w'

theorem ownsRow_beyond {w w' : World} {base : Nat} {e : TypeId} {size : Nat} {v : Value} {n : Nat} {xs : List Value} (h : w.ownsRow base e size v n xs) (hb : Below w.heap.size w w') : w'.ownsRow base e size v n xs :=
  h.kept (row := none) ⟨hb.os, hb.tape, hb.output, hb.size, fun k hk _ => hb.block k hk⟩ (by
    cases hv : v.ownBlock
    · exact .inl rfl
    · exact .inr (by simp))
theorem ownsRow_form {w : World} {base : Nat} {e : TypeId} {size : Nat} {v : Value} {n : Nat} {xs : List Value} (h : w.ownsRow base e size v n xs) : ∃ A c, v = .slice A n c := by
  rcases h.2 with ⟨e0, hn0⟩ | ⟨g, cap, cur, e0, _⟩
  · exact ⟨none, 0, by rw [e0, hn0]⟩
  · exact ⟨some ⟨g, 0, none⟩, cap, e0⟩
section
variable {P : Program}
/-- append of one element, just laid, to a row of the call's own -/
theorem wpList_append_one {ops : Array Oper} {rest : List Oper} {o : Oper} {a : Act} {Q : Exit → Act → World → Prop} (w0 w : World) (hgd : o.guard = none) (s x : Operand) (t : TypeId)
    (ho : o.op = .call { callee := .builtin .append, args := #[s, x], argTypes := #[t, t] })
    (base : Nat) (e : TypeId) (i : TypeInfo) (z : Value) (size bytes : Nat) (ht : P.underlying t = some (.slice e)) (hi : P.info? e = some i) (hz : i.zero = some z)
    (hsize : i.size = size) (hby : i.bytes = bytes) (hzs : z.cells.size = size) (hsz : 0 < size)
    (v : Value) (n : Nat) (xs : List Value) (hs : a.eval s = v) (cs : List Value) (hcs : cs.length = size) (h1 : ∀ u ∈ cs, u.oneCell' = true) (hx : a.eval x = .slice (some ⟨w.heap.size, 0, none⟩) 1 1)
    (hown : w.ownsRow base e size v n xs) (h63 : n + 1 ≤ maxLen) (hbytes : (n + 1) * bytes ≤ 140737488355328) (hbel : Below base w0 w) (hbase : base ≤ w.heap.size)
    (h : ∀ A' c' w', w'.ownsRow base e size (.slice A' (n + 1) c') (n + 1) (xs ++ cs) → Below base w0 w' → w.grownBy w' v.ownBlock → w.heap.size ≤ w'.heap.size → wpList P ops Q rest (a.put o.dst (.slice A' (n + 1) c')) w') :
    wpList P ops Q (o :: rest) a (w.alloc (Obj.cells cs.toArray e)) := by
  have hrd : Rd (w.alloc (Obj.cells cs.toArray e)) (w.heap.size + 1) size (some ⟨w.heap.size, 0, none⟩) 1 cs :=
    ⟨by rw [hcs, Nat.one_mul], fun _ => ⟨w.heap.size, 0, rfl, Nat.lt_succ_self _, fun j u hu => by rw [Nat.zero_add, World.cell?_alloc_new]; simpa using hu⟩⟩
  refine wpList_append_rd (w.alloc (Obj.cells cs.toArray e)) hgd s x t ho base e i z size bytes ht hi hz hsize hby hzs hsz v n xs hs (hown.alloc _) (w.heap.size + 1) _ 1 1 cs hx hrd h1 h63 hbytes (by rw [World.size_alloc]; omega) fun v' w' h2 h3 h4 => ?_
  obtain ⟨A', c', rfl⟩ := ownsRow_form h2
  have hg : w.grownBy w' v.ownBlock := ⟨h3.os, h3.tape, h3.output, Nat.le_trans (by rw [World.size_alloc]; omega) h3.size, fun k hk hne => (h3.block k (by rw [World.size_alloc]; omega) hne).trans (Below.heap_alloc w _ k hk)⟩
  exact h A' c' w' h2 ((hbel.alloc hbase _).grown h3 (by rw [World.size_alloc]; omega) (fun k hk => (hown.lt _ hk).1)) hg hg.size
end

end Go.Proofs.Ytimlbpjdgnapoaa

/- Contracts of package term: May and what it calls. -/
namespace Go.Proofs.Ytimlbpjdgnapoaa
set_option linter.unusedVariables false
set_option linter.unusedSimpArgs false
open Go.RowKit

theorem one_any (m : Int) (w : World) :
    Calls Try.prog 65 #[.int .u8 m] w fun e w' => e = .returned (.bool (oneB m)) ∧ w = w' := by
  by_cases h : 1 ≤ m
  · have hb : decide (1 ≤ m) = true := by simpa using h
    have H : Hid (decide (m ≤ 3) = oneB m) := by show _ = _; simp [oneB, h]
    clear h
    go_enter Try.func65, Try.ntmps65
    go_wp2_with fail
    go_ret
    exact ⟨ret_bool H.out, rfl⟩
  · have hb : decide (1 ≤ m) = false := by simpa using h
    have H : Hid (false = oneB m) := by show _ = _; simp [oneB, h]
    clear h
    go_enter Try.func65, Try.ntmps65
    go_wp2_with fail
    go_ret
    exact ⟨ret_bool H.out, rfl⟩
theorem one_at (m : Int) (v : Bool) (h : oneB m = v) (w : World) :
    Calls Try.prog 65 #[.int .u8 m] w fun e w' => e = .returned (.bool v) ∧ w = w' :=
  (one_any m w).mono fun _ _ ⟨he, hw⟩ => ⟨by rw [he, h], hw⟩

theorem varsB_mono (l : List Int) : ∀ n k, k < n → varB l k = false → varsB l n = false
  | 0, k, h, _ => absurd h (by omega)
  | n + 1, k, h, hf => by
    rcases Nat.lt_or_ge k n with h1 | h1
    · simp [varsB, varsB_mono l n k h1 hf]
    · have : k = n := by omega
      subst this
      simp [varsB, hf]

set_option maxHeartbeats 1000000 in
theorem may_any (v : Value) (t : TermD) (w : World) (B : Nat) (hv : TermV w B v t) (hB : B ≤ w.heap.size) :
    Calls Try.prog 42 #[v] w fun e w' => e = .returned (.int .i64 (mayE t)) ∧ Below w.heap.size w w' := by
  obtain ⟨A, n, c, rfl, hr⟩ := hv
  obtain ⟨nv, tc, vs⟩ := t
  have hlen := hr.len
  have Hlen := Lib.hid hlen
  clear hlen
  have hn63 : c ≤ 9223372036854775807 := hr.2.2
  have hnc := hr.2.1
  cases nv
  · cases h1 : oneB tc
    · have H : Hid (2 = mayE ⟨false, tc, vs⟩) := by show _ = _; rw [mayE_no]; simp [mayB, h1]
      have H1 := Lib.hid h1
      clear h1
      go_enter Try.func42, Try.ntmps42
      go_wp2_with fail
      refine (one_at _ _ H1.out _).mono ?_; rintro e w1 ⟨rfl, rfl⟩
      go_wp2_with fail
      go_ret
      exact ⟨ret_int H.out, (Below.refl _ _).alloc (Nat.le_refl _) _⟩
    · by_cases h2 : tc = 3 ∧ ¬ n = 0
      · obtain ⟨h3, h4⟩ := h2
        have H : Hid (2 = mayE ⟨false, tc, vs⟩) := by
          show _ = _
          rw [mayE_no]
          have : vs.isEmpty = false := by
            cases vs with
            | nil => have := Hlen.out; simp at this; omega
            | cons x r => rfl
          simp [mayB, h3, this]
        have H1 := Lib.hid h1
        have h5 : (tc == 3) = true := by simp [h3]
        have h6 : 0 < n := by omega
        clear h1 h3 h4
        go_enter Try.func42, Try.ntmps42
        go_wp2_with fail
        refine (one_at _ _ H1.out _).mono ?_; rintro e w1 ⟨rfl, rfl⟩
        go_wp2_with fail
        go_ret
        exact ⟨ret_int H.out, (Below.refl _ _).alloc (Nat.le_refl _) _⟩
      · have hE : ∀ b, varsB vs vs.length = b → mayB ⟨false, tc, vs⟩ = b := by
          intro b hb
          have hx : (tc == 3 && !vs.isEmpty) = false := by
            by_cases h3 : tc = 3
            · have hn0 : n = 0 := by
                rcases Nat.eq_zero_or_pos n with h | h
                · exact h
                · exact absurd ⟨h3, by omega⟩ h2
              have hvs : vs = [] := List.eq_nil_of_length_eq_zero (by rw [Hlen.out]; exact hn0)
              simp [hvs]
            · simp [h3]
          simp [mayB, h1, hx, hb]
        have HE := Lib.hid hE
        have H1 := Lib.hid h1
        clear hE h1
        have hcases : (tc == 3) = false ∨ ((tc == 3) = true ∧ n = 0) := by
          by_cases h3 : tc = 3
          · exact .inr ⟨by simp [h3], by rcases Nat.eq_zero_or_pos n with h | h; exact h; exact absurd ⟨h3, by omega⟩ h2⟩
          · exact .inl (by simp [h3])
        clear h2
        have hbel : Below w.heap.size w (w.alloc (Obj.cells #[.bool false, .int .u8 tc, .slice A n c] 37)) := (Below.refl _ _).alloc (Nat.le_refl _) _
        rcases hcases with h3 | ⟨h3, hn0⟩
        · go_enter Try.func42, Try.ntmps42
          go_wp2_with fail
          refine (one_at _ _ H1.out _).mono ?_; rintro e w1 ⟨rfl, rfl⟩
          go_wp2_with fail
          have hr1 := (hr.below ((Below.refl B w).alloc hB (Obj.cells #[.bool false, .int .u8 tc, .slice A n c] 37)))
          have hself : (w.alloc (Obj.cells #[.bool false, .int .u8 tc, .slice A n c] 37)).cell? ⟨w.heap.size, 2, none⟩ = some (.slice A n c) := by rw [World.cell?_alloc_new]; rfl
          generalize w.alloc (Obj.cells #[.bool false, .int .u8 tc, .slice A n c] 37) = W at hbel hr1 hself ⊢
          go_loopg [3, 4, 34] n (fun g _ _ i wr => ∃ k : Nat, k ≤ n ∧ g = n - k ∧ i = .int .i64 k ∧ varsB vs k = true ∧ W = wr)
          case atStart => exact ⟨0, Nat.zero_le _, rfl, rfl, rfl, rfl⟩
          case round =>
            obtain ⟨k, hk, rfl, rfl, hvb, rfl⟩ := hrel
            have Hvb := Lib.hid hvb
            clear hvb
            by_cases hlt : k < n
            · obtain ⟨b, off, hA, hb, hcell⟩ := hr1.at_ (by omega)
              have hk' : k < vs.length := by rw [Hlen.out]; exact hlt
              have hc1 := hcell k hk'
              have hg : vs.getD k 0 = vs[k] := by simp [List.getD, hk']
              have Hg := Lib.hid hg
              have hsnoc : varsB vs (k + 1) = (varsB vs k && varB vs k) := rfl
              have Hs := Lib.hid hsnoc
              clear hg hsnoc
              subst hA
              have Hcell := Lib.hid hcell
              clear hcell hr
              by_cases c1 : vs[k] < 0
              · have d1 : decide (vs[k] < 0) = true := by simpa using c1
                have HF : Hid (2 = mayE ⟨false, tc, vs⟩) := by
                  show _ = _
                  rw [mayE_no (HE.out false (varsB_mono vs vs.length k hk' (by unfold varB; rw [Hg.out, decide_eq_false (by omega : ¬ 0 ≤ vs[k])]; rfl)))]
                clear Hs
                go_wp2_with fail
                go_ret
                exact ⟨ret_int HF.out, hbel⟩
              · have d1 : decide (vs[k] < 0) = false := by simpa using c1
                by_cases c2 : 1048576 ≤ vs[k]
                · have d2 : decide (1048576 ≤ vs[k]) = true := by simpa using c2
                  have HF : Hid (2 = mayE ⟨false, tc, vs⟩) := by
                    show _ = _
                    rw [mayE_no (HE.out false (varsB_mono vs vs.length k hk' (by unfold varB; rw [Hg.out, decide_eq_false (by omega : ¬ vs[k] < 1048576), Bool.and_false]; rfl)))]
                  clear Hs
                  go_wp2_with fail
                  go_ret
                  exact ⟨ret_int HF.out, hbel⟩
                · have d2 : decide (1048576 ≤ vs[k]) = false := by simpa using c2
                  by_cases c3 : k = 0
                  · subst c3
                    have hc0 : W.cell? ⟨b, off, none⟩ = some (.int .i64 (vs[0]'hk')) := hc1
                    clear hc1
                    have HF : Hid (varsB vs (0 + 1) = true) := by show _ = _; rw [Hs.out, Hvb.out, Bool.true_and]; unfold varB; rw [Hg.out, Bool.and_eq_true, Bool.and_eq_true, Bool.or_eq_true, decide_eq_true_eq, decide_eq_true_eq, decide_eq_true_eq]; omega
                    clear Hs
                    go_wp2_with fail
                    go_roundg (n - (0 + 1))
                    case measure => omega
                    case rel => exact ⟨0 + 1, by omega, rfl, by go_num, HF.out, rfl⟩
                  · have d4 : 0 < k := by omega
                    have hk1 : k - 1 < vs.length := by omega
                    have hg1 : vs.getD (k - 1) 0 = vs[k - 1] := by simp [List.getD, hk1]
                    have Hg1 := Lib.hid hg1
                    clear hg1
                    have hc2 : W.cell? ⟨b, off + (k - 1), none⟩ = some (.int .i64 (vs[k - 1]'hk1)) := Hcell.out (k - 1) hk1
                    by_cases c4 : vs[k] ≤ vs[k - 1]
                    · have d5 : decide (vs[k] ≤ vs[k - 1]) = true := by simpa using c4
                      have HF : Hid (2 = mayE ⟨false, tc, vs⟩) := by
                        show _ = _
                        rw [mayE_no (HE.out false (varsB_mono vs vs.length k hk' (by unfold varB; rw [Hg.out, Hg1.out, decide_eq_false (by omega : ¬ vs[k - 1] < vs[k]), decide_eq_false c3, Bool.or_false, Bool.and_false])))]
                      clear Hs
                      go_wp2_with fail
                      go_ret
                      exact ⟨ret_int HF.out, hbel⟩
                    · have d5 : decide (vs[k] ≤ vs[k - 1]) = false := by simpa using c4
                      have HF : Hid (varsB vs (k + 1) = true) := by show _ = _; rw [Hs.out, Hvb.out, Bool.true_and]; unfold varB; rw [Hg.out, Hg1.out, decide_eq_true (by omega : 0 ≤ vs[k]), decide_eq_true (by omega : vs[k] < 1048576), decide_eq_true (by omega : vs[k - 1] < vs[k]), Bool.or_true]; rfl
                      clear Hs
                      go_wp2_with fail
                      go_roundg (n - (k + 1))
                      case measure => omega
                      case rel => exact ⟨k + 1, by omega, rfl, by go_num, HF.out, rfl⟩
            · have hkn : k = n := by omega
              subst hkn
              have HF : Hid (0 = mayE ⟨false, tc, vs⟩) := by
                show _ = _
                rw [mayE_yes (HE.out true (by rw [Hlen.out]; exact Hvb.out))]
              go_wp2_with fail
              go_ret
              exact ⟨ret_int HF.out, hbel⟩
        · have HF : Hid (0 = mayE ⟨false, tc, vs⟩) := by
            show _ = _
            have hvs : vs = [] := List.eq_nil_of_length_eq_zero (by rw [Hlen.out]; exact hn0)
            rw [mayE_yes (HE.out true (by rw [hvs]; rfl))]
          subst hn0
          go_enter Try.func42, Try.ntmps42
          go_wp2_with fail
          refine (one_at _ _ H1.out _).mono ?_; rintro e w1 ⟨rfl, rfl⟩
          go_wp2_with fail
          refine wp_loop_rounds 1 ?_; rw [rounds_succ]
          go_wp2_with fail
          go_ret
          exact ⟨ret_int HF.out, hbel⟩
  · by_cases h1 : tc = 0
    · by_cases h2 : n = 0
      · have H : Hid (0 = mayE ⟨true, tc, vs⟩) := by
          show _ = _
          have hvs : vs = [] := List.eq_nil_of_length_eq_zero (by rw [Hlen.out]; exact h2)
          rw [mayE_yes]; simp [mayB, h1, hvs]
        have h3 : (tc != 0) = false := by simp [h1]
        clear h1
        go_enter Try.func42, Try.ntmps42
        go_wp2_with fail
        go_ret
        exact ⟨ret_int H.out, (Below.refl _ _).alloc (Nat.le_refl _) _⟩
      · have H : Hid (2 = mayE ⟨true, tc, vs⟩) := by
          show _ = _
          have : vs.isEmpty = false := by
            cases vs with
            | nil => have := Hlen.out; simp at this; omega
            | cons x r => rfl
          rw [mayE_no]; simp [mayB, this]
        have h3 : (tc != 0) = false := by simp [h1]
        have h4 : 0 < n := by omega
        clear h1
        go_enter Try.func42, Try.ntmps42
        go_wp2_with fail
        go_ret
        exact ⟨ret_int H.out, (Below.refl _ _).alloc (Nat.le_refl _) _⟩
    · have H : Hid (2 = mayE ⟨true, tc, vs⟩) := by show _ = _; rw [mayE_no]; simp [mayB, h1]
      have h3 : (tc != 0) = true := by simp [h1]
      clear h1
      go_enter Try.func42, Try.ntmps42
      go_wp2_with fail
      go_ret
      exact ⟨ret_int H.out, (Below.refl _ _).alloc (Nat.le_refl _) _⟩

end Go.Proofs.Ytimlbpjdgnapoaa

/- The contract of term.Is. -/
namespace Go.Proofs.Ytimlbpjdgnapoaa
set_option linter.unusedVariables false
set_option linter.unusedSimpArgs false
open Go.RowKit

theorem is_any (c v : Int) (w : World) :
    Calls Try.prog 57 #[.agg #[.int .i64 v, .int .u8 c]] w fun e w' => e = .returned (.int .i64 (isE c v)) ∧ Below w.heap.size w w' := by
  by_cases h0 : c = 0 ∧ 0 ≤ v ∧ v < 1048576
  · obtain ⟨rfl, ha, hb⟩ := h0
    have H : Hid (0 = isE 0 v) := by show _ = _; rw [isE_yes]; simp [isB, ha, hb]
    go_enter Try.func57, Try.ntmps57
    go_wp2_with fail
    go_ret
    exact ⟨ret_int H.out, (Below.refl _ _).alloc (Nat.le_refl _) _⟩
  · have hx : (c == 0 && decide (0 ≤ v) && decide (v < 1048576)) = false := by
      rw [Bool.eq_false_iff]
      intro h
      simp only [Bool.and_eq_true, beq_iff_eq, decide_eq_true_eq] at h
      exact h0 ⟨h.1.1, h.1.2, h.2⟩
    have hcase : (c == 0) = false ∨ (c == 0) = true ∧ (¬ (0 ≤ v) ∨ 0 ≤ v ∧ ¬ (v < 1048576)) := by
      by_cases hc : c = 0
      · refine .inr ⟨by simp [hc], ?_⟩
        by_cases hv : 0 ≤ v
        · exact .inr ⟨hv, fun h => h0 ⟨hc, hv, h⟩⟩
        · exact .inl hv
      · exact .inl (by simp [hc])
    clear h0
    have hfin : ∀ b, (oneB c && v == 0) = b → isB c v = b := by intro b hb; unfold isB; rw [hx, hb]; rfl
    have Hfin := Lib.hid hfin
    clear hfin hx
    cases h1 : oneB c
    · have H : Hid (2 = isE c v) := by show _ = _; rw [isE_no (Hfin.out false (by simp [h1]))]
      have H1 := Lib.hid h1
      clear h1
      rcases hcase with h | ⟨h, h | ⟨h, h'⟩⟩
      all_goals
        go_enter Try.func57, Try.ntmps57
        go_wp2_with fail
        refine (one_at _ _ H1.out _).mono ?_; rintro e w1 ⟨rfl, rfl⟩
        go_wp2_with fail
        go_ret
        exact ⟨ret_int H.out, (Below.refl _ _).alloc (Nat.le_refl _) _⟩
    · have hc1 : (c == 0) = false := by
        rw [Bool.eq_false_iff]; intro h; rw [beq_iff_eq] at h; subst h; simp [oneB] at h1
      clear hcase
      have H1 := Lib.hid h1
      by_cases hv : v = 0
      · have H : Hid (0 = isE c v) := by show _ = _; rw [isE_yes (Hfin.out true (by simp [h1, hv]))]
        subst hv
        clear h1
        go_enter Try.func57, Try.ntmps57
        go_wp2_with fail
        refine (one_at _ _ H1.out _).mono ?_; rintro e w1 ⟨rfl, rfl⟩
        go_wp2_with fail
        go_ret
        exact ⟨ret_int H.out, (Below.refl _ _).alloc (Nat.le_refl _) _⟩
      · have hv0 : (v == 0) = false := by simp [hv]
        have H : Hid (2 = isE c v) := by show _ = _; rw [isE_no (Hfin.out false (by simp [h1, hv]))]
        clear h1 hv
        go_enter Try.func57, Try.ntmps57
        go_wp2_with fail
        refine (one_at _ _ H1.out _).mono ?_; rintro e w1 ⟨rfl, rfl⟩
        go_wp2_with fail
        go_ret
        exact ⟨ret_int H.out, (Below.refl _ _).alloc (Nat.le_refl _) _⟩

end Go.Proofs.Ytimlbpjdgnapoaa

