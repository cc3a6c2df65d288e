/- Contracts of package usufructref01's functions: joined, summed, scaled, fitting, the text. -/
import Derived.Test.YtmpodijbgkcdhaaRefA
import Derived.Test.YtmpodijbgkcdhaaMultT
namespace Go.Proofs.Ytmpodijbgkcdhaa
set_option linter.unusedVariables false
set_option linter.unusedSimpArgs false
open Go.RowKit

theorem lets_at (u n : Int) (v : Bool) (h : letsI u n = v) (w : World) :
    Calls Try.prog 24 #[.int .u8 u, .int .i64 n] w fun e w' => e = .returned (.bool v) ∧ w = w' :=
  (lets_any u n w).mono fun _ _ ⟨he, hw⟩ => ⟨by rw [he, h], hw⟩

theorem row_new (w : World) (t : TypeId) : (w.alloc (Obj.cells #[Value.bool false, Value.bool false, Value.bool false, Value.bool false] t)).rowIs w.heap.size t 4 (fun _ => .bool false) :=
  World.rowIs_alloc w _ t _ (fun i hi => by
    match i, hi with
    | 0, _ => rfl
    | 1, _ => rfl
    | 2, _ => rfl
    | 3, _ => rfl)

def joinF (a b : Int) (n : Nat) : Bool := letsI a n || letsI b n

/-- what a round does to the row: the truth at k is laid -/
theorem row_put {w : World} {g : Nat} {t : TypeId} {F : Nat → Bool} {k : Nat} (h : w.rowIs g t 4 (fun j => .bool (decide (j < k) && F j))) (v : Bool) (hv : F k = v) :
    (w.setCell ⟨g, k, none⟩ (.bool v)).rowIs g t 4 (fun j => .bool (decide (j < k + 1) && F j)) :=
  (h.set k (.bool v)).congr fun j _ => by
    by_cases e : j = k
    · subst e; simp [hv]
    · by_cases h1 : j < k
      · simp [e, h1, Nat.lt_succ_of_lt h1]
      · have h2 : ¬ j < k + 1 := by omega
        simp [e, h1, h2]
theorem row_cell {w : World} {g : Nat} {t : TypeId} {F : Nat → Bool} (h : w.rowIs g t 4 (fun j => .bool (decide (j < 4) && F j))) (j : Nat) (hj : j < 4) : w.cell? ⟨g, j, none⟩ = some (.bool (F j)) := by
  rw [h.cell hj]; simp [hj]

set_option maxHeartbeats 800000 in
theorem refJoin_any (a b : Int) (w : World) :
    Calls Try.prog 14 #[.int .u8 a, .int .u8 b] w fun e w' => e = .returned (.int .u8 (leastB (joinF a b))) ∧ Below w.heap.size w w' := by
  go_enter Try.func14, Try.ntmps14
  go_wp2_with fail
  go_loopw [6] (fun i wr => ∃ k : Nat, k ≤ 4 ∧ i = .int .i64 k ∧ wr.rowIs w.heap.size 42 4 (fun j => .bool (decide (j < k) && joinF a b j)) ∧ Below w.heap.size w wr) (fun i _ => 4 - (intOf i).toNat)
  case atStart => exact ⟨0, by omega, rfl, (row_new w _).congr (fun i _ => by simp), (Below.refl _ _).alloc (Nat.le_refl _) _⟩
  case round =>
    obtain ⟨k, hk, rfl, hrow, hbel⟩ := hrel
    have Hrow := Lib.hid hrow
    by_cases hlt : k < 4
    · have hc := hrow.cell (i := k) hlt
      have hf := hrow.frozen k
      clear hrow
      cases h1 : letsI a k
      · cases h2 : letsI b k
        · have HF : Hid (joinF a b k = false) := by show _ = _; simp [joinF, h1, h2]
          have H1 := Lib.hid h1; have H2 := Lib.hid h2; clear h1 h2
          go_wp2_with fail
          refine (lets_at _ _ _ H1.out _).mono ?_; rintro e w' ⟨rfl, rfl⟩
          go_wp2_with fail
          refine (lets_at _ _ _ H2.out _).mono ?_; rintro e w' ⟨rfl, rfl⟩
          go_wp2_with fail
          go_roundw
          case rel => exact ⟨k + 1, by omega, by go_num, row_put Hrow.out _ HF.out, hbel.setCell (Nat.le_refl _) _⟩
          case measure => exact meas hlt
        · have HF : Hid (joinF a b k = true) := by show _ = _; simp [joinF, h1, h2]
          have H1 := Lib.hid h1; have H2 := Lib.hid h2; clear h1 h2
          go_wp2_with fail
          refine (lets_at _ _ _ H1.out _).mono ?_; rintro e w' ⟨rfl, rfl⟩
          go_wp2_with fail
          refine (lets_at _ _ _ H2.out _).mono ?_; rintro e w' ⟨rfl, rfl⟩
          go_wp2_with fail
          go_roundw
          case rel => exact ⟨k + 1, by omega, by go_num, row_put Hrow.out _ HF.out, hbel.setCell (Nat.le_refl _) _⟩
          case measure => exact meas hlt
      · have HF : Hid (joinF a b k = true) := by show _ = _; simp [joinF, h1]
        have H1 := Lib.hid h1; clear h1
        go_wp2_with fail
        refine (lets_at _ _ _ H1.out _).mono ?_; rintro e w' ⟨rfl, rfl⟩
        go_wp2_with fail
        go_roundw
        case rel => exact ⟨k + 1, by omega, by go_num, row_put Hrow.out _ HF.out, hbel.setCell (Nat.le_refl _) _⟩
        case measure => exact meas hlt
    · have hk4 : k = 4 := by omega
      subst hk4
      have c0 := row_cell hrow 0 (by omega)
      have c1 := row_cell hrow 1 (by omega)
      have c2 := row_cell hrow 2 (by omega)
      have c3 := row_cell hrow 3 (by omega)
      clear hrow Hrow hlt
      go_wp2_with fail
      refine (leastB_any _ _).mono ?_; rintro e w2 ⟨rfl, hb2⟩
      go_wp2_with fail
      go_ret
      exact ⟨rfl, hbel.trans (hb2.mono hbel.size)⟩

/-- which sums are met ahead of the pair (N, K) -/
def hitB (a b : Int) (n k j : Nat) : Bool := letsI a n && letsI b k && (min (n + k) 3 == j)
def sumP (a b : Int) (N K : Nat) (j : Nat) : Bool := (List.range N).any (fun n => (List.range 4).any fun k => hitB a b n k j) || (List.range K).any fun k => hitB a b N k j
theorem sumP_step (a b : Int) (N K j : Nat) : sumP a b N (K + 1) j = (sumP a b N K j || hitB a b N K j) := by
  simp only [sumP, List.range_succ, List.any_append, List.any_cons, List.any_nil, Bool.or_false, Bool.or_assoc]
theorem sumP_next (a b : Int) (N j : Nat) : sumP a b (N + 1) 0 j = sumP a b N 4 j := by
  unfold sumP
  rw [List.range_succ, List.any_append]
  simp only [List.any_cons, List.any_nil, Bool.or_false, List.range_zero]

theorem rowF_put {w : World} {g : Nat} {t : TypeId} {F G : Nat → Bool} {k : Nat} (h : w.rowIs g t 4 (fun j => .bool (F j))) (hG : ∀ j, G j = (F j || (k == j))) :
    (w.setCell ⟨g, k, none⟩ (.bool true)).rowIs g t 4 (fun j => .bool (G j)) :=
  (h.set k (.bool true)).congr fun j _ => by
    rw [hG]
    by_cases e : j = k
    · subst e; simp
    · have : (k == j) = false := by simp; omega
      simp [e, this]

set_option maxHeartbeats 800000 in
theorem refSum_any (a b : Int) (w : World) :
    Calls Try.prog 13 #[.int .u8 a, .int .u8 b] w fun e w' => e = .returned (.int .u8 (leastB (sumP a b 4 0))) ∧ Below w.heap.size w w' := by
  have hmn := @run_min2 Try.prog
  go_enter Try.func13, Try.ntmps13
  go_wp2_with fail
  go_loopg [6, 7] 4 (fun g i _ wr => ∃ k : Nat, k ≤ 4 ∧ g = 4 - k ∧ i = .int .i64 k ∧ wr.rowIs w.heap.size 42 4 (fun j => .bool (sumP a b k 0 j)) ∧ Below w.heap.size w wr)
  case atStart => exact ⟨0, by omega, rfl, rfl, (row_new w _).congr (fun i _ => by simp [sumP]), (Below.refl _ _).alloc (Nat.le_refl _) _⟩
  case round =>
    obtain ⟨n, hn, rfl, rfl, hrow, hbel⟩ := hrel
    have Hrow := Lib.hid hrow
    by_cases hlt : n < 4
    · clear hrow
      have hd : decide ((n : Int) < 4) = true := by simp; omega
      go_wp2_with fail
      obtain ⟨wo, rfl⟩ : ∃ wo : World, wo = wr := ⟨_, rfl⟩
      go_loopg [7] 4 (fun g i wr => ∃ k : Nat, k ≤ 4 ∧ g = 4 - k ∧ i = .int .i64 k ∧ wr.rowIs w.heap.size 42 4 (fun j => .bool (sumP a b n k j)) ∧ Below w.heap.size w wr)
      case atStart => exact ⟨0, by omega, rfl, rfl, Hrow.out, hbel⟩
      case round =>
        obtain ⟨k, hk, rfl, rfl, hrow, hbel⟩ := hrel
        clear Hrow
        have Hrow := Lib.hid hrow
        clear hrow
        by_cases hlk : k < 4
        · cases h1 : letsI a n
          · have HF : Hid (∀ j, sumP a b n (k + 1) j = sumP a b n k j) := fun j => by rw [sumP_step]; simp [hitB, h1]
            have H1 := Lib.hid h1; clear h1
            go_wp2_with fail
            refine (lets_at _ _ _ H1.out _).mono ?_; rintro e w' ⟨rfl, rfl⟩
            go_wp2_with fail
            go_roundg (4 - (k + 1))
            case measure => omega
            case rel => exact ⟨k + 1, by omega, rfl, by go_num, Hrow.out.congr fun j _ => by rw [HF.out], hbel⟩
          · cases h2 : letsI b k
            · have HF : Hid (∀ j, sumP a b n (k + 1) j = sumP a b n k j) := fun j => by rw [sumP_step]; simp [hitB, h2]
              have H1 := Lib.hid h1; have H2 := Lib.hid h2; clear h1 h2
              go_wp2_with fail
              refine (lets_at _ _ _ H1.out _).mono ?_; rintro e w' ⟨rfl, rfl⟩
              go_wp2_with fail
              refine (lets_at _ _ _ H2.out _).mono ?_; rintro e w' ⟨rfl, rfl⟩
              go_wp2_with fail
              go_roundg (4 - (k + 1))
              case measure => omega
              case rel => exact ⟨k + 1, by omega, rfl, by go_num, Hrow.out.congr fun j _ => by rw [HF.out], hbel⟩
            · have HF : Hid (∀ j, sumP a b n (k + 1) j = (sumP a b n k j || ((min ((n : Int) + (k : Int)) 3).toNat == j))) := fun j => by
                rw [sumP_step, show (min ((n : Int) + (k : Int)) 3).toNat = min (n + k) 3 from by omega]; simp [hitB, h1, h2]
              have H1 := Lib.hid h1; have H2 := Lib.hid h2; clear h1 h2
              have hc := Hrow.out.cell (i := (min ((n : Int) + (k : Int)) 3).toNat) (by omega)
              have hf := Hrow.out.frozen (min ((n : Int) + (k : Int)) 3).toNat
              go_wp2_with fail
              refine (lets_at _ _ _ H1.out _).mono ?_; rintro e w' ⟨rfl, rfl⟩
              go_wp2_with fail
              refine (lets_at _ _ _ H2.out _).mono ?_; rintro e w' ⟨rfl, rfl⟩
              go_wp2_with fail
              go_roundg (4 - (k + 1))
              case measure => omega
              case rel => exact ⟨k + 1, by omega, rfl, by go_num, rowF_put Hrow.out HF.out, hbel.setCell (Nat.le_refl _) _⟩
        · have hk4 : k = 4 := by omega
          subst hk4
          go_wp2_with fail
          go_roundg (4 - (n + 1))
          case measure => omega
          case rel => exact ⟨n + 1, by omega, rfl, by go_num, Hrow.out.congr fun j _ => by rw [sumP_next], hbel⟩
    · have hk4 : n = 4 := by omega
      subst hk4
      have c0 := hrow.cell (i := 0) (by omega)
      have c1 := hrow.cell (i := 1) (by omega)
      have c2 := hrow.cell (i := 2) (by omega)
      have c3 := hrow.cell (i := 3) (by omega)
      clear hrow Hrow hlt
      go_wp2_with fail
      refine (leastB_any _ _).mono ?_; rintro e w2 ⟨rfl, hb2⟩
      go_wp2_with fail
      go_ret
      exact ⟨rfl, hbel.trans (hb2.mono hbel.size)⟩

/-- so many uses of one kind, summed -/
def sumN (u : Int) : Nat → Int
  | 0 => 0
  | t + 1 => leastB (sumP (sumN u t) u 4 0)
/-- what times t < N let be, and of times N itself up to K -/
def scHit (m u : Int) (t j : Nat) : Bool := letsI (ofI m) t && letsI (sumN u t) j
def scP (m u : Int) (N : Nat) (j : Nat) : Bool := (List.range N).any fun t => scHit m u t j
theorem scP_step (m u : Int) (N j : Nat) : scP m u (N + 1) j = (scP m u N j || scHit m u N j) := by
  simp only [scP, List.range_succ, List.any_append, List.any_cons, List.any_nil, Bool.or_false]
def scF (m u : Int) (N K : Nat) (j : Nat) : Bool := if j < K then scP m u (N + 1) j else scP m u N j

set_option maxHeartbeats 1000000 in
theorem refScale_any (m u : Int) (w : World) :
    Calls Try.prog 20 #[.int .u8 m, .int .u8 u] w fun e w' => e = .returned (.int .u8 (leastB (scP m u 4))) ∧ Below w.heap.size w w' := by
  go_enter Try.func20, Try.ntmps20
  go_wp2_with fail
  go_loopg [6, 7, 8, 9] 4 (fun g i _ _ _ wr => ∃ k : Nat, k ≤ 4 ∧ g = 4 - k ∧ i = .int .i64 k ∧ wr.rowIs w.heap.size 42 4 (fun j => .bool (scP m u k j)) ∧ Below w.heap.size w wr ∧ w.heap.size < wr.heap.size)
  case atStart => exact ⟨0, by omega, rfl, rfl, (row_new w _).congr (fun i _ => by simp [scP]), (Below.refl _ _).alloc (Nat.le_refl _) _, by simp⟩
  case round =>
    obtain ⟨n, hn, rfl, rfl, hrow, hbel, hsz⟩ := hrel
    have Hrow := Lib.hid hrow
    by_cases hlt : n < 4
    · clear hrow
      go_wp2_with fail
      refine (of_any _ _).mono ?_; rintro e w' ⟨rfl, rfl⟩
      go_wp2_with fail
      cases h1 : letsI (ofI m) n
      · have HF : Hid (∀ j, scP m u (n + 1) j = scP m u n j) := fun j => by rw [scP_step]; simp [scHit, h1]
        refine (lets_at _ _ _ h1 _).mono ?_; rintro e w' ⟨rfl, rfl⟩
        clear h1
        go_wp2_with fail
        go_roundg (4 - (n + 1))
        case measure => omega
        case rel => exact ⟨n + 1, by omega, rfl, by go_num, Hrow.out.congr fun j _ => by rw [HF.out], hbel, hsz⟩
      · have HF : Hid (∀ j, scP m u (n + 1) j = (scP m u n j || letsI (sumN u n) j)) := fun j => by rw [scP_step]; simp [scHit, h1]
        refine (lets_at _ _ _ h1 _).mono ?_; rintro e w' ⟨rfl, rfl⟩
        clear h1
        go_wp2_with fail
        obtain ⟨wo, rfl⟩ : ∃ wo : World, wo = wr := ⟨_, rfl⟩
        go_loopg [7, 8] n (fun g s i wr => ∃ k : Nat, k ≤ n ∧ g = n - k ∧ s = .int .u8 (sumN u k) ∧ i = .int .i64 k ∧ wr.rowIs w.heap.size 42 4 (fun j => .bool (scP m u n j)) ∧ Below w.heap.size w wr ∧ w.heap.size < wr.heap.size)
        case atStart => exact ⟨0, by omega, rfl, rfl, rfl, Hrow.out, hbel, hsz⟩
        case round =>
          obtain ⟨k, hk, rfl, rfl, rfl, hrow, hbel, hsz⟩ := hrel
          clear Hrow
          have Hrow := Lib.hid hrow
          clear hrow
          by_cases hlk : k < n
          · go_wp2_with fail
            refine (refSum_any _ _ _).mono ?_; rintro e w2 ⟨rfl, hb2⟩
            go_wp2_with fail
            go_roundg (n - (k + 1))
            case measure => omega
            case rel => exact ⟨k + 1, by omega, rfl, rfl, by go_num, Hrow.out.of_block (hb2.block _ hsz), hbel.trans (hb2.mono hbel.size), Nat.lt_of_lt_of_le hsz hb2.size⟩
          · have hkn : k = n := by omega
            subst hkn
            go_wp2_with fail
            obtain ⟨wo2, rfl⟩ : ∃ wo : World, wo = wr := ⟨_, rfl⟩
            go_loopg [9] 4 (fun g i wr => ∃ j : Nat, j ≤ 4 ∧ g = 4 - j ∧ i = .int .i64 j ∧ wr.rowIs w.heap.size 42 4 (fun x => .bool (scF m u k j x)) ∧ Below w.heap.size w wr ∧ w.heap.size < wr.heap.size)
            case atStart => exact ⟨0, by omega, rfl, rfl, Hrow.out.congr fun j _ => by simp [scF], hbel, hsz⟩
            case round =>
              obtain ⟨j, hj, rfl, rfl, hrow, hbel, hsz⟩ := hrel
              clear Hrow
              have Hrow := Lib.hid hrow
              clear hrow
              by_cases hlj : j < 4
              · have hc := Hrow.out.cell (i := j) hlj
                have hf := Hrow.out.frozen j
                have e1 : scF m u k j j = scP m u k j := by simp [scF]
                rw [e1] at hc
                clear e1
                have HG : ∀ v, scP m u (k + 1) j = v → (∀ x, scF m u k (j + 1) x = if x = j then v else scF m u k j x) := by
                  intro v hv x
                  unfold scF
                  by_cases hx : x = j
                  · subst hx; simp [hv]
                  · by_cases h1 : x < j
                    · simp [hx, h1, Nat.lt_succ_of_lt h1]
                    · have h2 : ¬ x < j + 1 := by omega
                      simp [hx, h1, h2]
                have HG := Lib.hid HG
                have hHF := HF.out j
                cases h1 : scP m u k j
                · rw [h1] at hHF hc
                  clear h1
                  simp only [Bool.false_or] at hHF
                  have HHF := Lib.hid hHF
                  clear hHF
                  go_wp2_with fail
                  refine (lets_any _ _ _).mono ?_; rintro e w' ⟨rfl, rfl⟩
                  go_wp2_with fail
                  go_roundg (4 - (j + 1))
                  case measure => omega
                  case rel => exact ⟨j + 1, by omega, rfl, by go_num, (Hrow.out.set j _).congr fun x _ => by rw [HG.out _ HHF.out x]; split <;> rfl, hbel.setCell (Nat.le_refl _) _, by simpa using hsz⟩
                · rw [h1] at hHF hc
                  clear h1
                  simp only [Bool.true_or] at hHF
                  have HHF := Lib.hid hHF
                  clear hHF
                  go_wp2_with fail
                  go_roundg (4 - (j + 1))
                  case measure => omega
                  case rel => exact ⟨j + 1, by omega, rfl, by go_num, (Hrow.out.set j _).congr fun x _ => by rw [HG.out _ HHF.out x]; split <;> rfl, hbel.setCell (Nat.le_refl _) _, by simpa using hsz⟩
              · have hj4 : j = 4 := by omega
                subst hj4
                go_wp2_with fail
                go_roundg (4 - (k + 1))
                case measure => omega
                case rel => exact ⟨k + 1, by omega, rfl, by go_num, Hrow.out.congr fun j hj => by simp [scF, hj], hbel, hsz⟩
    · have hk4 : n = 4 := by omega
      subst hk4
      have c0 := hrow.cell (i := 0) (by omega)
      have c1 := hrow.cell (i := 1) (by omega)
      have c2 := hrow.cell (i := 2) (by omega)
      have c3 := hrow.cell (i := 3) (by omega)
      clear hrow Hrow hlt
      go_wp2_with fail
      refine (leastB_any _ _).mono ?_; rintro e w2 ⟨rfl, hb2⟩
      go_wp2_with fail
      go_ret
      exact ⟨rfl, hbel.trans (hb2.mono hbel.size)⟩

/-- a use fits a multiplicity: each of the first four numbers that it lets be is let be -/
def fitTo (u m : Int) : Nat → Bool
  | 0 => true
  | k + 1 => fitTo u m k && (!letsI u k || letsI (ofI m) k)

set_option maxHeartbeats 400000 in
theorem refFits_any (u m : Int) (w : World) :
    Calls Try.prog 19 #[.int .u8 u, .int .u8 m] w fun e w' => e = .returned (.bool (fitTo u m 4)) ∧ w = w' := by
  go_enter Try.func19, Try.ntmps19
  go_wp2_with fail
  go_loopg [5] 4 (fun g i wr => ∃ k : Nat, k ≤ 4 ∧ g = 4 - k ∧ i = .int .i64 k ∧ fitTo u m k = true ∧ w = wr)
  case atStart => exact ⟨0, by omega, rfl, rfl, rfl, rfl⟩
  case round =>
    obtain ⟨k, hk, rfl, rfl, hfit, rfl⟩ := hrel
    have Hfit := Lib.hid hfit
    clear hfit
    by_cases hlt : k < 4
    · cases h1 : letsI u k
      · have HF : Hid (fitTo u m (k + 1) = true) := by show _ = _; simp [fitTo, h1, Hfit.out]
        have H1 := Lib.hid h1; clear h1
        go_wp2_with fail
        refine (lets_at _ _ _ H1.out _).mono ?_; rintro e w' ⟨rfl, rfl⟩
        go_wp2_with fail
        go_roundg (4 - (k + 1))
        case measure => omega
        case rel => exact ⟨k + 1, by omega, rfl, by go_num, HF.out, rfl⟩
      · cases h2 : letsI (ofI m) k
        · have HF : Hid (fitTo u m 4 = false) := by
            show _ = _
            have h0 : fitTo u m (k + 1) = false := by simp [fitTo, h1, h2]
            match k, hlt, h0 with
            | 0, _, h0 => simp [fitTo] at h0 ⊢; simp [h0]
            | 1, _, h0 => simp [fitTo] at h0 ⊢; simp_all
            | 2, _, h0 => simp [fitTo] at h0 ⊢; simp_all
            | 3, _, h0 => exact h0
          have H1 := Lib.hid h1; have H2 := Lib.hid h2; clear h1 h2
          go_wp2_with fail
          refine (lets_at _ _ _ H1.out _).mono ?_; rintro e w' ⟨rfl, rfl⟩
          go_wp2_with fail
          refine (of_any _ _).mono ?_; rintro e w' ⟨rfl, rfl⟩
          go_wp2_with fail
          refine (lets_at _ _ _ H2.out _).mono ?_; rintro e w' ⟨rfl, rfl⟩
          go_wp2_with fail
          go_ret
          exact ⟨ret_bool HF.out.symm, rfl⟩
        · have HF : Hid (fitTo u m (k + 1) = true) := by show _ = _; simp [fitTo, h2, Hfit.out]
          have H1 := Lib.hid h1; have H2 := Lib.hid h2; clear h1 h2
          go_wp2_with fail
          refine (lets_at _ _ _ H1.out _).mono ?_; rintro e w' ⟨rfl, rfl⟩
          go_wp2_with fail
          refine (of_any _ _).mono ?_; rintro e w' ⟨rfl, rfl⟩
          go_wp2_with fail
          refine (lets_at _ _ _ H2.out _).mono ?_; rintro e w' ⟨rfl, rfl⟩
          go_wp2_with fail
          go_roundg (4 - (k + 1))
          case measure => omega
          case rel => exact ⟨k + 1, by omega, rfl, by go_num, HF.out, rfl⟩
    · have hk4 : k = 4 := by omega
      subst hk4
      go_wp2_with fail
      go_ret
      exact ⟨ret_bool Hfit.out.symm, rfl⟩

def rtext (m : Int) : ByteArray := if ofI m = 1 then tOne else if ofI m = 2 then tAff else tMany
theorem of_at (m v : Int) (h : ofI m = v) (w : World) :
    Calls Try.prog 27 #[.int .u8 m] w fun e w' => e = .returned (.int .u8 v) ∧ w = w' :=
  (of_any m w).mono fun _ _ ⟨he, hw⟩ => ⟨by rw [he, h], hw⟩
theorem ofI_cases (m : Int) : ofI m = 1 ∨ ofI m = 2 ∨ ofI m = 3 := by unfold ofI; repeat' split
                                                                      all_goals omega
theorem refText_any (m : Int) (w : World) :
    Calls Try.prog 22 #[.int .u8 m] w fun e w' => e = .returned (.string (rtext m)) ∧ w = w' := by
  rcases ofI_cases m with e | e | e
  · have H : Hid (rtext m = ⟨#[49]⟩) := by show _ = _; simp [rtext, e, tOne]
    have E := Lib.hid e; clear e
    go_enter Try.func22, Try.ntmps22
    go_wp2_with fail
    refine (of_at m _ E.out _).mono ?_; rintro e' w2 ⟨rfl, rfl⟩
    go_wp2_with fail
    go_ret
    exact ⟨by rw [H.out]; rfl, rfl⟩
  · have H : Hid (rtext m = ⟨#[63]⟩) := by show _ = _; simp [rtext, e, tAff]
    have E := Lib.hid e; clear e
    go_enter Try.func22, Try.ntmps22
    go_wp2_with fail
    refine (of_at m _ E.out _).mono ?_; rintro e' w2 ⟨rfl, rfl⟩
    go_wp2_with fail
    go_ret
    exact ⟨by rw [H.out]; rfl, rfl⟩
  · have H : Hid (rtext m = ⟨#[42]⟩) := by show _ = _; simp [rtext, e, tMany]
    have E := Lib.hid e; clear e
    go_enter Try.func22, Try.ntmps22
    go_wp2_with fail
    refine (of_at m _ E.out _).mono ?_; rintro e' w2 ⟨rfl, rfl⟩
    go_wp2_with fail
    go_ret
    exact ⟨by rw [H.out]; rfl, rfl⟩

end Go.Proofs.Ytmpodijbgkcdhaa
