/- usufructref17: Of, put, Less. -/
import Derived.Test.YtimlbpjdgnapoaaUsesK
import Derived.Test.YtimlbpjdgnapoaaRefG
namespace Go.Proofs.Ytimlbpjdgnapoaa
set_option linter.unusedVariables false
set_option linter.unusedSimpArgs false
open Go.RowKit

theorem ofU_first {xs : List UseD} {v : Int} {k : Nat} (h : k < xs.length) (hv : xs[k].v = v) (hb : ∀ j (h : j < xs.length), j < k → xs[j].v ≠ v) : ofU xs v = xs[k].t := by
  have : xs.find? (fun x => x.v == v) = some xs[k] := by
    rw [List.find?_eq_some_iff_getElem]
    refine ⟨by simp [hv], k, h, rfl, fun j hj => ?_⟩
    have := hb j (by omega) hj
    simpa using this
  unfold ofU
  rw [this]

set_option maxHeartbeats 1000000 in
theorem refOf_any (B : Nat) (v : Int) (A : Option Addr) (n c : Nat) (xs : List UseD) (w : World) (hx : UsesV w B A n c xs) (hB : B ≤ w.heap.size) :
    Calls Try.prog 26 #[.slice A n c, .int .i64 v] w (RetL B (ofU xs v) w) := by
  have hxl := hx.len
  have n63 : n ≤ 9223372036854775807 := Nat.le_trans hx.2.1 hx.2.2.1
  have hb0 := below_box (w := w) (Obj.cells #[.bool false, .int .u8 0, .slice none 0 0] 37)
  have hk0 := blk_new w #[.bool false, .int .u8 0, .slice none 0 0] 37
  have hx0 := hx.below (hb0.mono hB)
  have HB := Lib.hid hB
  have Hb0 := Lib.hid hb0
  have Hx := Lib.hid hx0
  have hkk : ∀ i, (w.alloc (Obj.cells #[.bool false, .int .u8 0, .slice none 0 0] 37)).frozen? ⟨w.heap.size, i, none⟩ = false := fun i => hk0.frozen i
  have c0 : (w.alloc (Obj.cells #[.bool false, .int .u8 0, .slice none 0 0] 37)).cell? ⟨w.heap.size, 0, none⟩ = some (.bool false) := hk0.cell 0
  have c1 : (w.alloc (Obj.cells #[.bool false, .int .u8 0, .slice none 0 0] 37)).cell? ⟨w.heap.size, 1, none⟩ = some (.int .u8 0) := hk0.cell 1
  have c2 : (w.alloc (Obj.cells #[.bool false, .int .u8 0, .slice none 0 0] 37)).cell? ⟨w.heap.size, 2, none⟩ = some (.slice none 0 0) := hk0.cell 2
  have f0 := hkk 0
  have f1 := hkk 1
  have f2 := hkk 2
  have Hk0 := Lib.hid hk0
  obtain ⟨T, hT⟩ : ∃ T, ofU xs v = T := ⟨_, rfl⟩
  rw [hT]
  have HT := Lib.hid hT
  clear hx hb0 hx0 hk0 hkk hB hT
  go_enter Try.func26, Try.ntmps26
  go_wp2_with fail
  generalize (w.alloc (Obj.cells #[.bool false, .int .u8 0, .slice none 0 0] 37)) = W at Hb0 Hx c0 c1 c2 f0 f1 f2 Hk0 ⊢
  go_loopg [5] n (fun gh i wr => ∃ k : Nat, k ≤ n ∧ gh = n - k ∧ i = .int .i64 k ∧ (∀ j (h : j < xs.length), j < k → xs[j].v ≠ v) ∧ W = wr)
  case atStart => exact ⟨0, Nat.zero_le _, rfl, rfl, fun j _ h => absurd h (by omega), rfl⟩
  case round =>
    obtain ⟨k, hk, rfl, rfl, hno, rfl⟩ := hrel
    have Hno := Lib.hid hno
    clear hno
    by_cases hkn : k < n
    · have d0 : decide (k < n) = true := by simpa using hkn
      obtain ⟨b, o, q, hb, hc⟩ := Hx.out.at_ (by omega)
      subst q
      have hk' : k < xs.length := by omega
      obtain ⟨e0, Ax, nx, cx, e1, e2, e3, hrx⟩ := hc k hk'
      obtain ⟨x, hxk⟩ : ∃ x, xs[k] = x := ⟨_, rfl⟩
      rw [hxk] at e0 e1 e2 hrx
      replace e2 : W.cell? ⟨b, o + k * 4 + 2, none⟩ = some (.int .u8 x.t.c) := e2
      replace e3 : W.cell? ⟨b, o + k * 4 + 3, none⟩ = some (.slice Ax nx cx) := e3
      have Hrx := Lib.hid hrx
      have k1 : (0 : Int) ≤ (k : Int) := by omega
      have k2 : (k : Int) < n := by omega
      by_cases hv : x.v = v
      · have d1 : (x.v == v) = true := by simp [hv]
        have hof : ofU xs v = x.t := by rw [← hxk]; exact ofU_first hk' (by rw [hxk]; exact hv) Hno.out
        have hTe : T = x.t := HT.out.symm.trans hof
        clear HT
        subst hTe
        clear hc hrx hxk hof Hno hv
        obtain ⟨xv, nv, tc, vs⟩ := x
        dsimp only at e0 e1 e2 Hrx d1 ⊢
        go_wp2_with fail
        have hs := Hk0.out.set3 (.bool nv) (.int .u8 tc) (.slice Ax nx cx)
        have hb3 := ((Hb0.out.setCell (p := ⟨w.heap.size, 0, none⟩) (Nat.le_refl _) (.bool nv)).setCell (p := ⟨w.heap.size, 1, none⟩) (Nat.le_refl _) (.int .u8 tc)).setCell (p := ⟨w.heap.size, 2, none⟩) (Nat.le_refl _) (.slice Ax nx cx)
        have hr9 := Hrx.out.put3 Hk0.out (.bool nv) (.int .u8 tc) (.slice Ax nx cx)
        generalize (((W.setCell ⟨w.heap.size, 0, none⟩ (.bool nv)).setCell ⟨w.heap.size, 1, none⟩ (.int .u8 tc)).setCell ⟨w.heap.size, 2, none⟩ (.slice Ax nx cx)) = W3 at hs hb3 hr9 ⊢
        have d0 : W3.cell? ⟨w.heap.size, 0, none⟩ = some (.bool nv) := hs.cell 0
        have d1 : W3.cell? ⟨w.heap.size, 1, none⟩ = some (.int .u8 tc) := hs.cell 1
        have d2 : W3.cell? ⟨w.heap.size, 2, none⟩ = some (.slice Ax nx cx) := hs.cell 2
        exact bodyPost_ret (v := .agg #[.bool nv, .int .u8 tc, .slice Ax nx cx]) (by simp [results, Try.results26, go_sem, d0, d1, d2]) rfl ⟨_, _, _, rfl, hr9, hb3⟩
      · have d1 : (x.v == v) = false := by simp [hv]
        have hno2 : ∀ j (h : j < xs.length), j < k + 1 → xs[j].v ≠ v := fun j h hj => by
          rcases Nat.lt_or_ge j k with h' | h'
          · exact Hno.out j h h'
          · have : j = k := by omega
            subst this
            rw [hxk]; exact hv
        have Hno2 := Lib.hid hno2
        clear hc hrx hxk hno2 Hno hv
        go_wp2_with fail
        go_roundg (n - (k + 1))
        case measure => omega
        case rel => exact ⟨k + 1, by omega, rfl, by go_num, Hno2.out, rfl⟩
    · have d0 : decide (k < n) = false := by simpa using hkn
      have hof : ofU xs v = ⟨true, 0, []⟩ := ofU_none fun x hx => by
        obtain ⟨j, hj, rfl⟩ := List.getElem_of_mem hx
        exact Hno.out j hj (by omega)
      have Hrx : Hid (RdI .i64 W B none 0 0 []) := Lib.hid RdI.nil
      have hTe : T = ⟨true, 0, []⟩ := HT.out.symm.trans hof
      clear HT
      subst hTe
      clear hof Hno
      go_wp2_with fail
      have hs := Hk0.out.set3 (.bool true) (.int .u8 0) (.slice none 0 0)
      have hb3 := ((Hb0.out.setCell (p := ⟨w.heap.size, 0, none⟩) (Nat.le_refl _) (.bool true)).setCell (p := ⟨w.heap.size, 1, none⟩) (Nat.le_refl _) (.int .u8 0)).setCell (p := ⟨w.heap.size, 2, none⟩) (Nat.le_refl _) (.slice none 0 0)
      have hr9 := Hrx.out.put3 Hk0.out (.bool true) (.int .u8 0) (.slice none 0 0)
      generalize (((W.setCell ⟨w.heap.size, 0, none⟩ (.bool true)).setCell ⟨w.heap.size, 1, none⟩ (.int .u8 0)).setCell ⟨w.heap.size, 2, none⟩ (.slice none 0 0)) = W3 at hs hb3 hr9 ⊢
      have d0 : W3.cell? ⟨w.heap.size, 0, none⟩ = some (.bool true) := hs.cell 0
      have d1 : W3.cell? ⟨w.heap.size, 1, none⟩ = some (.int .u8 0) := hs.cell 1
      have d2 : W3.cell? ⟨w.heap.size, 2, none⟩ = some (.slice none 0 0) := hs.cell 2
      exact bodyPost_ret (v := .agg #[.bool true, .int .u8 0, .slice none 0 0]) (by simp [results, Try.results26, go_sem, d0, d1, d2]) rfl ⟨_, _, _, rfl, hr9, hb3⟩

set_option maxHeartbeats 1000000 in
theorem put_any (base n : Nat) (v0 : Value) (xs : List UseD) (v : Int) (t : TermD) (A : Option Addr) (m c : Nat) (w0 w : World) (hown : OwnU w base v0 n xs) (hn : n ≤ 1099511627776) (hnv : t.never = false) (hr : RdI .i64 w w.heap.size A m c t.vars) (hf : 0 < m → ∃ a, A = some a ∧ some a.block ≠ v0.ownBlock) (hbel : Below base w0 w) (hbase : base ≤ w.heap.size) :
    Calls Try.prog 47 #[v0, .int .i64 v, .agg #[.bool t.never, .int .u8 t.c, .slice A m c]] w fun e w' => ∃ A' c', e = .returned (.slice A' (n + 1) c') ∧ OwnU w' base (.slice A' (n + 1) c') (n + 1) (xs ++ [⟨v, t⟩]) ∧ Below base w0 w' ∧ w.heap.size ≤ w'.heap.size := by
  obtain ⟨i2, hu0, hu1, hu2, hu3⟩ := info_parts usageInfo
  obtain ⟨nv, tc, vs⟩ := t
  dsimp only at hnv hr ⊢
  subst hnv
  have hbx := below_box (w := w) (Obj.cells #[.bool false, .int .u8 tc, .slice A m c] 37)
  have hou := hown.beyond hbx
  have hr2 := (hr.below hbx).more hbx.size
  have hbel2 := hbel.trans (hbx.mono hbase)
  have Hsz := Lib.hid hbx.size
  have Hbase := Lib.hid (Nat.le_trans hbase hbx.size)
  have Hou := Lib.hid hou
  have Hr := Lib.hid hr2
  have Hf := Lib.hid hf
  have Hbel := Lib.hid hbel2
  clear hou hr2 hbel2 hbx hown hr hf hbel
  go_enter Try.func47, Try.ntmps47
  go_wp2_with (at_builtin; go_must (refine wpList_append_use (w.alloc (Obj.cells #[.bool false, .int .u8 tc, .slice A m c] 37)) (w.alloc (Obj.cells #[.bool false, .int .u8 tc, .slice A m c] 37)) rfl (.tmp 10) (.tmp 14) 25 rfl base i2 _ Try.underlying25 hu0 hu1 hu2 hu3 rfl v0 n xs rfl ⟨v, ⟨false, tc, vs⟩⟩ A m c Hr.out Hf.out (by rw [World.size_alloc]; rfl) Hou.out hn (Below.refl _ _) Hbase.out ?_); intro A10 c10 w10 ho10 hb10)
  go_ret
  exact ⟨A10, c10, rfl, ho10, Hbel.out.trans hb10, Nat.le_trans Hsz.out hb10.size⟩

set_option maxHeartbeats 1000000 in
theorem less_any (v : Int) (A : Option Addr) (n c : Nat) (xs : List UseD) (w : World) (hx : UsesV w w.heap.size A n c xs) (hn : n ≤ 1048576) :
    Calls Try.prog 27 #[.slice A n c, .int .i64 v] w (RetU (xs.filter fun t => t.v != v) w) := by
  obtain ⟨i2, hu0, hu1, hu2, hu3⟩ := info_parts usageInfo
  have hxl := hx.len
  have n63 : n ≤ 9223372036854775807 := by omega
  have Hx := Lib.hid hx
  clear hx
  go_enter Try.func27, Try.ntmps27
  go_wp2_with fail
  go_loopg [5, 6] n (fun gh o i wr => ∃ (k m : Nat), k ≤ n ∧ gh = n - k ∧ i = .int .i64 k ∧ m ≤ k ∧ OwnU wr w.heap.size o m ((xs.take k).filter fun t => t.v != v) ∧ Below w.heap.size w wr)
  case atStart => exact ⟨0, 0, Nat.zero_le _, rfl, rfl, Nat.le_refl _, OwnU.nil _ _, Below.refl _ _⟩
  case round =>
    obtain ⟨k, m, hk, rfl, rfl, hm, ho, hbel⟩ := hrel
    by_cases hkn : k < n
    · have d0 : decide (k < n) = true := by simpa using hkn
      obtain ⟨b, o, q, hb, hc⟩ := (Hx.out.below hbel).at_ (by omega)
      subst q
      have hk' : k < xs.length := by omega
      obtain ⟨e0, Ax, nx, cx, e1, e2, e3, hrx⟩ := hc k hk'
      have hstep := filter_take_succU (fun t => t.v != v) xs k hk'
      obtain ⟨x, hxk⟩ : ∃ x, xs[k] = x := ⟨_, rfl⟩
      rw [hxk] at e0 e1 e2 hrx hstep
      replace e2 : wr.cell? ⟨b, o + k * 4 + 2, none⟩ = some (.int .u8 x.t.c) := e2
      replace e3 : wr.cell? ⟨b, o + k * 4 + 3, none⟩ = some (.slice Ax nx cx) := e3
      have k1 : (0 : Int) ≤ (k : Int) := by omega
      have k2 : (k : Int) < n := by omega
      have Hrx := Lib.hid (hrx.more hbel.size)
      have hlow := rdI_low hrx
      have hlt := ho.lt
      obtain ⟨A1, c1, rfl⟩ := ho.form
      have hf : 0 < nx → ∃ a, Ax = some a ∧ some a.block ≠ (Value.slice A1 m c1).ownBlock := fun h => by
        obtain ⟨a, e, ha⟩ := hlow h
        refine ⟨a, e, fun e' => ?_⟩
        have := (hlt _ e'.symm).1
        omega
      have Hf := Lib.hid hf
      have Ho := Lib.hid ho
      have Hbel := Lib.hid hbel
      by_cases hv : x.v = v
      · have d1 : (x.v != v) = false := by simp [hv]
        rw [d1] at hstep
        simp only [Bool.false_eq_true, if_false, List.append_nil] at hstep
        have Hst := Lib.hid hstep
        clear hstep hc hrx hxk hlow hlt hf ho hbel hv
        go_wp2_with fail
        go_roundg (n - (k + 1))
        case measure => omega
        case rel => exact ⟨k + 1, m, by omega, rfl, by go_num, by omega, by rw [Hst.out]; exact Ho.out, Hbel.out⟩
      · have d1 : (x.v != v) = true := by simp [hv]
        rw [d1] at hstep
        simp only [if_true] at hstep
        have Hst := Lib.hid hstep
        clear hstep hc hrx hxk hlow hlt hf ho hbel hv
        go_wp2_with (at_builtin; go_must (refine wpList_append_use w wr rfl (.tmp 20) (.tmp 25) 25 rfl w.heap.size i2 _ Try.underlying25 hu0 hu1 hu2 hu3 rfl (.slice A1 m c1) m _ rfl x Ax nx cx Hrx.out Hf.out rfl Ho.out (by omega) Hbel.out Hbel.out.size ?_); intro A10 c10 w10 ho10 hb10)
        go_roundg (n - (k + 1))
        case measure => omega
        case rel => exact ⟨k + 1, m + 1, by omega, rfl, by go_num, by omega, by rw [Hst.out]; exact ho10, hb10⟩
    · have d0 : decide (k < n) = false := by simpa using hkn
      rw [List.take_of_length_le (by omega)] at ho
      obtain ⟨A1, c1, rfl⟩ := ho.form
      have HU := Lib.hid ho.uses.2
      have Hbel := Lib.hid hbel
      clear ho hbel
      go_wp2_with fail
      go_ret
      exact ⟨A1, m, c1, rfl, HU.out, Hbel.out⟩

end Go.Proofs.Ytimlbpjdgnapoaa
