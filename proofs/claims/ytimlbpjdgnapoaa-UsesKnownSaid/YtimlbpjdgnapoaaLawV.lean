/- The contracts of the helpers of package usufructlaw17: one, used, great. -/
import Derived.Test.YtimlbpjdgnapoaaUsesP
import Derived.Test.YtimlbpjdgnapoaaUsesI
import Derived.Test.YtimlbpjdgnapoaaUsesJ
import Derived.Test.YtimlbpjdgnapoaaUsesK
import Derived.Test.YtimlbpjdgnapoaaUsesN
namespace Go.Proofs.Ytimlbpjdgnapoaa
set_option linter.unusedVariables false
set_option linter.unusedSimpArgs false
open Go.RowKit

theorem one_any_u (x : Int) (A : Option Addr) (n c : Nat) (w : World) :
    Calls Try.prog 23 #[.int .u8 x, .slice A n c] w fun e w' => e = .returned (.agg #[.bool false, .int .u8 x, .slice A n c]) ∧ Below w.heap.size w w' := by
  go_enter Try.func23, Try.ntmps23
  go_wp2_with fail
  exact bodyPost_ret (v := .agg #[.bool false, .int .u8 x, .slice A n c]) (by simp [results, Try.results23, go_sem]) rfl ⟨rfl, below_box _⟩

/-- uses that are gone through -/
structure SmallU (ls : List (List UseD)) : Prop where
  num : ls.length ≤ 20
  len : ∀ l ∈ ls, l.length ≤ 500
  vars : ∀ l ∈ ls, ∀ x ∈ l, x.t.vars.length ≤ 500
def GreatPost (ls : List (List UseD)) (w : World) (e : Ending) (w' : World) : Prop :=
  ∃ r : Bool, e = .returned (.bool r) ∧ (r = false → SmallU ls) ∧ Below w.heap.size w w'

set_option maxRecDepth 100000 in
set_option maxHeartbeats 2000000 in
theorem greatU_any (A : Option Addr) (n c : Nat) (ls : List (List UseD)) (w : World) (hr : LsV w w.heap.size A n c ls) (hbig : ∀ l ∈ ls, l.length ≤ 4398046511104) :
    Calls Try.prog 8 #[.slice A n c] w (GreatPost ls w) := by
  have hmn := @run_min2 Try.prog
  have hlen := hr.len
  have hn43 : n ≤ maxLen := Nat.le_trans hr.2.1 hr.2.2.1
  unfold maxLen at hn43
  have Hr := Lib.hid hr
  have Hbig := Lib.hid hbig
  clear hr hbig
  go_enter Try.func8, Try.ntmps8
  go_wp2_with fail
  go_loopg [3, 10] n (fun gh s i wr => ∃ k S : Nat, k ≤ n ∧ gh = n - k ∧ i = .int .i64 k ∧ s = .int .i64 S ∧ S ≤ 500 ∧ (∀ j (h : j < ls.length), j < k → ls[j].length ≤ 500 ∧ ∀ x ∈ ls[j], x.t.vars.length ≤ 500) ∧ Below w.heap.size w wr)
  case atStart => exact ⟨0, 0, Nat.zero_le _, rfl, rfl, rfl, by omega, fun j _ h => absurd h (by omega), Below.refl _ _⟩
  case round =>
    obtain ⟨k, S, hk, rfl, rfl, rfl, hS, hall, hbel⟩ := hrel
    have Hall := Lib.hid hall
    have Hbel := Lib.hid hbel
    clear hall
    by_cases hkn : k < n
    · have d0 : decide (k < n) = true := by simpa using hkn
      have hk' : k < ls.length := by omega
      obtain ⟨b, o, q, hb, hc⟩ := (Hr.out.below hbel).at_ (by omega)
      subst q
      obtain ⟨Ai, ni, ci, e0, hx⟩ := hc k hk'
      have hxl := hx.len
      have hni : ni ≤ 4398046511104 := by rw [← hxl]; exact Hbig.out _ (List.getElem_mem hk')
      have Hx := Lib.hid (hx.more hbel.size)
      obtain ⟨w4, hw4⟩ : ∃ w4, w4 = wr := ⟨_, rfl⟩
      subst hw4
      have k1 : (0 : Int) ≤ (k : Int) := by omega
      have k2 : (k : Int) < n := by omega
      clear hc hx hbel
      go_wp2_with fail
      go_loopg [3, 20] ni (fun gh s i wr2 => ∃ j T : Nat, j ≤ ni ∧ gh = ni - j ∧ i = .int .i64 j ∧ s = .int .i64 T ∧ ni ≤ T ∧ (j = 0 → T = S + ni) ∧ (0 < j → T ≤ 500) ∧ (∀ q (h : q < ls[k].length), q < j → ls[k][q].t.vars.length ≤ 500) ∧ Below w4.heap.size w4 wr2)
      case atStart => exact ⟨0, S + ni, Nat.zero_le _, rfl, rfl, by go_num, by omega, fun _ => rfl, fun h => absurd h (by omega), fun q _ h => absurd h (by omega), Below.refl _ _⟩
      case round =>
        obtain ⟨j, T, hj, rfl, rfl, rfl, hnT, hT2, hT5, hvs, hbel2⟩ := hrel
        have Hvs := Lib.hid hvs
        have Hbel2 := Lib.hid hbel2
        clear hvs
        have hT42 : T ≤ 4398046512000 := by
          rcases Nat.eq_zero_or_pos j with h | h
          · have := hT2 h; omega
          · have := hT5 h; omega
        by_cases hjn : j < ni
        · have d1 : decide (j < ni) = true := by simpa using hjn
          obtain ⟨b2, o2, q2, hb2, hc2⟩ := (Hx.out.below hbel2).at_ (by omega)
          subst q2
          have hj' : j < ls[k].length := by omega
          obtain ⟨f0, Ax, nx, cx, f1, f2, f3, hrx⟩ := hc2 j hj'
          obtain ⟨x, hxj⟩ : ∃ x, ls[k][j] = x := ⟨_, rfl⟩
          rw [hxj] at f0 f1 f2 hrx
          replace f2 : wr.cell? ⟨b2, o2 + j * 4 + 2, none⟩ = some (.int .u8 x.t.c) := f2
          replace f3 : wr.cell? ⟨b2, o2 + j * 4 + 3, none⟩ = some (.slice Ax nx cx) := f3
          have hnx : nx ≤ maxLen := Nat.le_trans hrx.2.1 hrx.2.2
          unfold maxLen at hnx
          have hxvl := hrx.len
          have Hxj := Lib.hid hxj
          have j1 : (0 : Int) ≤ (j : Int) := by omega
          have j2 : (j : Int) < ni := by omega
          obtain ⟨M, hM⟩ : ∃ M : Nat, M = min nx 500 := ⟨_, rfl⟩
          have hMm : (min (nx : Int) 500) = (M : Int) := by omega
          have hM5 : M ≤ 500 := by omega
          have hbx := Hbel2.out.alloc Hbel2.out.size (Obj.cells #[.int .i64 x.v, .bool x.t.never, .int .u8 x.t.c, .slice Ax nx cx] 41)
          have Hbx := Lib.hid hbx
          clear hc2 hrx hxj hbx hbel2
          by_cases hbig : 500 < T + M
          · have d2 : decide ((T : Int) + M > 500) = true := by simp; omega
            clear hM
            go_wp2_with fail
            go_ret
            exact ⟨true, rfl, fun h => absurd h (by simp), Hbel.out.trans (Hbx.out.mono Hbel.out.size)⟩
          · have d2 : decide ((T : Int) + M > 500) = false := by simp; omega
            have hvs2 : ∀ q (h : q < ls[k].length), q < j + 1 → ls[k][q].t.vars.length ≤ 500 := fun q h hq => by
              rcases Nat.lt_or_ge q j with h' | h'
              · exact Hvs.out q h h'
              · have : q = j := by omega
                subst this
                rw [Hxj.out]; omega
            have Hvs2 := Lib.hid hvs2
            clear hvs2 hM
            go_wp2_with fail
            go_roundg (ni - (j + 1))
            case measure => omega
            case rel => exact ⟨j + 1, T + M, by omega, rfl, by go_num, by go_num, by omega, fun h => absurd h (by omega), fun _ => by omega, Hvs2.out, Hbx.out⟩
        · have d1 : decide (j < ni) = false := by simpa using hjn
          have hall2 : ∀ j (h : j < ls.length), j < k + 1 → ls[j].length ≤ 500 ∧ ∀ x ∈ ls[j], x.t.vars.length ≤ 500 := fun q h hq => by
            rcases Nat.lt_or_ge q k with h' | h'
            · exact Hall.out q h h'
            · have : q = k := by omega
              subst this
              refine ⟨by omega, fun x hx => ?_⟩
              obtain ⟨z, hz, rfl⟩ := List.getElem_of_mem hx
              exact Hvs.out z hz (by omega)
          have hT : T ≤ 500 := by
            rcases Nat.eq_zero_or_pos j with h | h
            · have := hT2 h; omega
            · exact hT5 h
          have Hall2 := Lib.hid hall2
          have Hb3 := Lib.hid (Hbel.out.trans (hbel2.mono Hbel.out.size))
          clear hall2 hbel2
          go_wp2_with fail
          go_roundg (n - (k + 1))
          case measure => omega
          case rel => exact ⟨k + 1, T, by omega, rfl, by go_num, rfl, hT, Hall2.out, Hb3.out⟩
    · have d0 : decide (k < n) = false := by simpa using hkn
      have d2 : decide ((S : Int) > 500) = false := by simp; omega
      have HF : Hid ((decide ((n : Int) > 20) = false) → SmallU ls) := Lib.hid fun h => by
        have h' : ¬ ((n : Int) > 20) := of_decide_eq_false h
        refine ⟨by omega, fun l hl => ?_, fun l hl => ?_⟩
        · obtain ⟨j, hj, rfl⟩ := List.getElem_of_mem hl
          exact (Hall.out j hj (by omega)).1
        · obtain ⟨j, hj, rfl⟩ := List.getElem_of_mem hl
          exact (Hall.out j hj (by omega)).2
      go_wp2_with fail
      go_ret
      exact ⟨_, rfl, HF.out, Hbel.out⟩

/-- each variable is used as its term says -/
def usedU (ts : List TermD) : List UseD := (ts.zipIdx.filter fun p => !p.1.never).map fun p => ⟨p.2, p.1⟩
theorem usedU_snoc (ts : List TermD) (t : TermD) : usedU (ts ++ [t]) = usedU ts ++ (if t.never then [] else [⟨ts.length, t⟩]) := by
  unfold usedU
  rw [List.zipIdx_append, List.filter_append, List.map_append]
  cases h : t.never <;> simp [h]

set_option maxRecDepth 100000 in
set_option maxHeartbeats 2000000 in
theorem used_any (A : Option Addr) (n c : Nat) (ts : List TermD) (w : World) (hr : TermsV w w.heap.size A n c ts) (hn : n ≤ 1000) :
    Calls Try.prog 22 #[.slice A n c] w (RetU (usedU ts) w) := by
  obtain ⟨i2, hu0, hu1, hu2, hu3⟩ := info_parts usageInfo
  obtain ⟨hlen, hnc, hcm, hat⟩ := hr
  have Hat := Lib.hid hat
  clear hat
  go_enter Try.func22, Try.ntmps22
  go_wp2_with fail
  go_loopg [3, 8] n (fun gh o i wr => ∃ k m : Nat, k ≤ n ∧ gh = n - k ∧ i = .int .i64 k ∧ m ≤ k ∧ OwnU wr w.heap.size o m (usedU (ts.take k)) ∧ Below w.heap.size w wr)
  case atStart => exact ⟨0, 0, Nat.zero_le _, rfl, rfl, Nat.le_refl _, OwnU.nil _ _, Below.refl _ _⟩
  case round =>
    obtain ⟨k, m, hk, rfl, rfl, hm, ho, hbel⟩ := hrel
    obtain ⟨A1, c1, rfl⟩ := ho.form
    by_cases hkn : k < n
    · have d0 : decide (k < n) = true := by simpa using hkn
      obtain ⟨b, off, rfl, hb, hcell⟩ := Hat.out (by omega)
      have hk' : k < ts.length := by omega
      obtain ⟨A', n', c', e0, e1, e2, hr'⟩ := (hcell k hk').keep hb (fun q hq => hbel.cell hq)
      have hstep : usedU (ts.take (k + 1)) = usedU (ts.take k) ++ (if ts[k].never then [] else [⟨(k : Nat), ts[k]⟩]) := by
        rw [List.take_succ_eq_append_getElem hk', usedU_snoc, List.length_take, Nat.min_eq_left (by omega)]
      obtain ⟨t, ht⟩ : ∃ t, ts[k] = t := ⟨_, rfl⟩
      rw [ht] at e0 e1 hr' hstep
      obtain ⟨nv, tc, vs⟩ := t
      dsimp only at e0 e1 hr' hstep
      have k1 : (0 : Int) ≤ (k : Int) := by omega
      have k2 : (k : Int) < n := by omega
      have hlow := rdI_low hr'
      have hlt := ho.lt
      have hf : 0 < n' → ∃ a, A' = some a ∧ some a.block ≠ (Value.slice A1 m c1).ownBlock := fun h => by
        obtain ⟨a, e, ha⟩ := hlow h
        refine ⟨a, e, fun e' => ?_⟩
        have := (hlt _ e'.symm).1
        omega
      have hbx := below_box (w := wr) (Obj.cells #[.bool nv, .int .u8 tc, .slice A' n' c'] 37)
      have Hr' := Lib.hid (((hr'.more hbel.size).below hbx).more hbx.size)
      have Hf := Lib.hid hf
      have Ho := Lib.hid (ho.beyond hbx)
      have Hbel := Lib.hid (hbel.trans (hbx.mono hbel.size))
      clear hcell hr' hlow hlt hf hbx ho hbel ht
      cases nv with
      | true =>
        simp only [if_true, List.append_nil] at hstep
        have Hst := Lib.hid hstep
        clear hstep
        go_wp2_with fail
        go_roundg (n - (k + 1))
        case measure => omega
        case rel => exact ⟨k + 1, m, by omega, rfl, by go_num, by omega, by rw [Hst.out]; exact Ho.out, Hbel.out⟩
      | false =>
        simp only [Bool.false_eq_true, if_false] at hstep
        have Hst := Lib.hid hstep
        clear hstep
        go_wp2_with (at_builtin; go_must (refine wpList_append_use w (wr.alloc (Obj.cells #[.bool false, .int .u8 tc, .slice A' n' c'] 37)) rfl (.tmp 16) (.tmp 20) 25 rfl w.heap.size i2 _ Try.underlying25 hu0 hu1 hu2 hu3 rfl (.slice A1 m c1) m _ rfl ⟨(k : Nat), ⟨false, tc, vs⟩⟩ A' n' c' Hr'.out Hf.out (by rw [World.size_alloc]; rfl) Ho.out (by omega) Hbel.out Hbel.out.size ?_); intro A10 c10 w10 ho10 hb10)
        go_roundg (n - (k + 1))
        case measure => omega
        case rel => exact ⟨k + 1, m + 1, by omega, rfl, by go_num, by omega, by rw [Hst.out]; exact ho10, hb10⟩
    · have d0 : decide (k < n) = false := by simpa using hkn
      rw [List.take_of_length_le (by omega)] at ho
      have HU := Lib.hid ho.uses.2
      have Hbel := Lib.hid hbel
      clear ho hbel
      go_wp2_with fail
      go_ret
      exact ⟨A1, m, c1, rfl, HU.out, Hbel.out⟩

end Go.Proofs.Ytimlbpjdgnapoaa
