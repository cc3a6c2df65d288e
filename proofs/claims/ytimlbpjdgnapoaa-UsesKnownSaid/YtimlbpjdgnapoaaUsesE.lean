/- The contract of uses.each, for any function of terms. -/
import Derived.Test.YtimlbpjdgnapoaaUsesD
import Derived.Test.YtimlbpjdgnapoaaPlA
namespace Go.Proofs.Ytimlbpjdgnapoaa
set_option linter.unusedVariables false
set_option linter.unusedSimpArgs false
open Go.RowKit Go.Sort

/-- the variables of lists, as they come -/
def varsOf (ls : List (List UseD)) : List Int := ls.flatMap fun l => l.map (·.v)
/-- what lists say of each variable -/
def eachU (F : List TermD → TermD) (ls : List (List UseD)) : List UseD := (sset (varsOf ls)).map fun v => ⟨v, F (ls.map fun l => ofU l v)⟩
/-- the call returns uses, and the error x -/
def RetUE (xs : List UseD) (x : Int) (w : World) (e : Ending) (w' : World) : Prop :=
  ∃ A n c, e = .returned (.tuple #[.slice A n c, .int .i64 x]) ∧ UsesV w' w'.heap.size A n c xs ∧ Below w.heap.size w w'

theorem varsOf_snoc (l : List (List UseD)) (x : List UseD) : varsOf (l ++ [x]) = varsOf l ++ x.map (·.v) := by simp [varsOf]
theorem varsOf_mem {ls : List (List UseD)} {v : Int} : v ∈ varsOf ls ↔ ∃ l ∈ ls, ∃ x ∈ l, x.v = v := by simp [varsOf]
theorem varsOf_take_le (ls : List (List UseD)) (k : Nat) (q : Nat) (h : k < ls.length) : (varsOf (ls.take k)).length + (ls[k].take q).length ≤ (varsOf ls).length := by
  have h1 : ls = ls.take k ++ ls[k] :: ls.drop (k + 1) := by rw [← List.drop_eq_getElem_cons h, List.take_append_drop]
  have h2 : (varsOf ls).length = (varsOf (ls.take k)).length + ls[k].length + (varsOf (ls.drop (k + 1))).length := by
    conv => lhs; rw [h1]
    unfold varsOf
    rw [List.flatMap_append, List.flatMap_cons, List.length_append, List.length_append, List.length_map]
    omega
  have : (ls[k].take q).length ≤ ls[k].length := by rw [List.length_take]; omega
  omega

theorem each_no (A : Option Addr) (n c : Nat) (fv : Value) (ls : List (List UseD)) (w : World) (hr : LsV w w.heap.size A n c ls) (hno : ls.any (fun x => !mayU x) = true) :
    Calls Try.prog 43 #[.slice A n c, fv] w (RetUE [] 2 w) := by
  have hb := bad_any A n c ls w hr
  rw [hno] at hb
  have Hb := Lib.hid hb
  clear hb hno hr
  go_enter Try.func43, Try.ntmps43
  go_wp2_with fail
  refine Hb.out.mono ?_; rintro e w1 ⟨rfl, hb1⟩
  go_wp2_with fail
  exact bodyPost_ret (v := .tuple #[.slice none 0 0, .int .i64 2]) (by simp [results, Try.results43, go_sem]) rfl ⟨none, 0, 0, rfl, UsesV.nil, hb1⟩

set_option maxRecDepth 100000 in
set_option maxHeartbeats 4000000 in
theorem each_yes (A : Option Addr) (n c : Nat) (fid : Nat) (hent : Enters fid) (F : List TermD → TermD) (ls : List (List UseD)) (w : World) (hr : LsV w w.heap.size A n c ls) (hyes : ls.any (fun x => !mayU x) = false)
    (hn : n ≤ 1048576) (hV : (varsOf ls).length ≤ 1048576)
    (hf : ∀ (v : Int) (A : Option Addr) (m c : Nat) (w' : World), v ∈ varsOf ls → Below w.heap.size w w' → TermsV w' w'.heap.size A m c (ls.map fun l => ofU l v) → Calls Try.prog fid #[.slice A m c] w' (RetFE (F (ls.map fun l => ofU l v)) 0 w')) :
    Calls Try.prog 43 #[.slice A n c, .func (.func fid) #[] #[]] w (RetUE (eachU F ls) 0 w) := by
  have hb := bad_any A n c ls w hr
  rw [hyes] at hb
  have Hb := Lib.hid hb
  have hlen := hr.len
  have n63 : n ≤ 9223372036854775807 := by omega
  have Hr := Lib.hid hr
  have Hf := Lib.hid hf
  have hall : ∀ k (h : k < ls.length), mayU ls[k] = true := fun k h => by
    rw [List.any_eq_false] at hyes
    have := hyes _ (List.getElem_mem h)
    simpa using this
  have Hall := Lib.hid hall
  obtain ⟨i0, hi0, hz0, hz1, hz2⟩ := info_parts (show (Try.prog.info? 3).map (fun i => (i.zero, i.size, i.bytes)) = some (some (.int .i64 0), 1, 8) from by kernel_rfl)
  obtain ⟨i1, ht0, ht1, ht2, ht3⟩ := info_parts termInfo
  obtain ⟨i2, hu0, hu1, hu2, hu3⟩ := info_parts usageInfo
  unfold Enters at hent
  clear hb hyes hr hf hall
  go_enter Try.func43, Try.ntmps43
  go_wp2_with fail
  refine Hb.out.mono ?_; rintro e w1 ⟨rfl, hb1⟩
  clear Hb
  go_wp2_with fail
  go_loopg [6, 23] n (fun gh vs i wr => ∃ k : Nat, k ≤ n ∧ gh = n - k ∧ i = .int .i64 k ∧ wr.ownsRow w.heap.size 3 1 vs (varsOf (ls.take k)).length ((varsOf (ls.take k)).map (Value.int .i64)) ∧ Below w.heap.size w wr)
  case atStart => exact ⟨0, Nat.zero_le _, rfl, rfl, World.ownsRow_nil _ _ _ _, hb1⟩
  case round =>
    obtain ⟨k, hk, rfl, rfl, ho, hbel⟩ := hrel
    have Ho := Lib.hid ho
    have Hbel := Lib.hid hbel
    by_cases hkn : k < n
    · obtain ⟨b, o, q, hb, hc⟩ := Hr.out.at_ (by omega)
      subst q
      have hk' : k < ls.length := by omega
      obtain ⟨Ai, ni, ci, e0', hxi⟩ := hc k hk'
      have e0 : wr.cell? ⟨b, o + k, none⟩ = some (.slice Ai ni ci) := (hbel.cell (p := ⟨b, o + k, none⟩) hb).trans e0'
      have hxl := hxi.len
      have ni63 : ni ≤ 9223372036854775807 := Nat.le_trans hxi.2.1 hxi.2.2.1
      have Hxi := Lib.hid hxi
      have k1 : (0 : Int) ≤ (k : Int) := by omega
      have k2 : (k : Int) < n := by omega
      clear hc hxi ho hbel hb1 e0'
      go_wp2_with fail
      go_loopg [6, 29] ni (fun gh2 vs2 j wr2 => ∃ q : Nat, q ≤ ni ∧ gh2 = ni - q ∧ j = .int .i64 q ∧ wr2.ownsRow w.heap.size 3 1 vs2 (varsOf (ls.take k) ++ (ls[k].take q).map (·.v)).length ((varsOf (ls.take k) ++ (ls[k].take q).map (·.v)).map (Value.int .i64)) ∧ Below w.heap.size w wr2)
      case atStart => exact ⟨0, Nat.zero_le _, rfl, rfl, by simpa using Ho.out, Hbel.out⟩
      case round =>
        obtain ⟨q, hq, rfl, rfl, ho2, hbel2⟩ := hrel
        by_cases hqn : q < ni
        · obtain ⟨b2, o2, q2, hb2, hc2⟩ := (Hxi.out.below hbel2).at_ (by omega)
          subst q2
          have hq' : q < ls[k].length := by omega
          obtain ⟨y0, Ax, nx, cx, y1, y2, y3, hrx⟩ := hc2 q hq'
          have hstep : ls[k].take (q + 1) = ls[k].take q ++ [ls[k][q]] := List.take_succ_eq_append_getElem hq'
          have hle := varsOf_take_le ls k q hk'
          have hle2 : (varsOf (ls.take k) ++ (ls[k].take q).map (·.v)).length ≤ 1048576 := by
            rw [List.length_append, List.length_map]; omega
          have Hstep := Lib.hid hstep
          obtain ⟨x, hxq⟩ : ∃ x, ls[k][q] = x := ⟨_, rfl⟩
          rw [hxq] at y0 y1 y2 Hstep
          replace y2 : wr.cell? ⟨b2, o2 + q * 4 + 2, none⟩ = some (.int .u8 x.t.c) := y2
          replace y3 : wr.cell? ⟨b2, o2 + q * 4 + 3, none⟩ = some (.slice Ax nx cx) := y3
          have q1 : (0 : Int) ≤ (q : Int) := by omega
          have q2 : (q : Int) < ni := by omega
          clear hc2 hrx hstep hxq hle
          obtain ⟨m, hm⟩ : ∃ m, m = (varsOf (ls.take k) ++ (ls[k].take q).map (·.v)).length := ⟨_, rfl⟩
          rw [← hm] at ho2 hle2
          have Hm := Lib.hid hm
          obtain ⟨A1, c1, rfl⟩ := ownsRow_form ho2
          have hbx := hbel2.alloc hbel2.size (Obj.cells #[.int .i64 x.v, .bool x.t.never, .int .u8 x.t.c, .slice Ax nx cx] 41)
          have hox := ho2.alloc (Obj.cells #[.int .i64 x.v, .bool x.t.never, .int .u8 x.t.c, .slice Ax nx cx] 41)
          have Hbx := Lib.hid hbx
          have Hox := Lib.hid hox
          clear hbx hox ho2 hbel2 hm
          go_wp2_with (at_builtin; go_must (refine wpList_append_one w (wr.alloc (Obj.cells #[.int .i64 x.v, .bool x.t.never, .int .u8 x.t.c, .slice Ax nx cx] 41)) rfl (.tmp 33) (.tmp 36) 35 rfl w.heap.size 3 i0 _ 1 8 Try.underlying35 hi0 hz0 hz1 hz2 rfl (by omega) (.slice A1 m c1) m _ rfl [.int .i64 x.v] rfl (by intro u hu; simp at hu; subst hu; rfl) (by rw [World.size_alloc]; rfl) Hox.out (by unfold maxLen; omega) (by omega) Hbx.out Hbx.out.size ?_); intro A2 c2 w2 ho2 hbel2 hg2 hz2'; clear hg2)
          go_roundg (ni - (q + 1))
          case measure => omega
          case rel =>
            refine ⟨q + 1, by omega, rfl, by go_num, ?_, hbel2⟩
            rw [Hstep.out, List.map_append, ← List.append_assoc, List.length_append, ← Hm.out, List.map_append]
            exact ho2
        · have hq' : q = ni := by omega
          subst hq'
          have hall2 : varsOf (ls.take k) ++ (ls[k].take q).map (·.v) = varsOf (ls.take (k + 1)) := by
            rw [List.take_of_length_le (show ls[k].length ≤ q by omega), List.take_succ_eq_append_getElem hk', varsOf_snoc]
          rw [hall2] at ho2
          have Ho2 := Lib.hid ho2
          have Hbel2 := Lib.hid hbel2
          clear ho2 hbel2 hall2
          go_wp2_with fail
          go_roundg (n - (k + 1))
          case measure => omega
          case rel => exact ⟨k + 1, by omega, rfl, by go_num, Ho2.out, Hbel2.out⟩
    · have hkn' : n = k := by omega
      subst hkn'
      rw [List.take_of_length_le (by omega)] at ho
      have hs := sort0_any w.heap.size _ _ w wr ho (by omega) hbel hbel.size
      have Hs := Lib.hid hs
      clear hs ho hbel Ho Hbel hb1
      go_wp2_with fail
      refine Hs.out.mono ?_; rintro e w2 ⟨rfl, ho2, hbel2, hz2'⟩
      have hls : ((varsOf ls).mergeSort fun x y => decide (x ≤ y)).length = (varsOf ls).length := List.length_mergeSort _
      rw [← hls] at ho2
      have hs := compact0_any w.heap.size _ _ w w2 ho2 hbel2
      have Hs := Lib.hid hs
      clear hs ho2 hbel2 hls
      go_wp2_with fail
      refine Hs.out.mono ?_; rintro e w3 ⟨A3, c3, rfl, ho3, hbel3, hz3⟩
      change w3.ownsRow w.heap.size 3 1 (.slice A3 (sset (varsOf ls)).length c3) (sset (varsOf ls)).length ((sset (varsOf ls)).map (Value.int .i64)) at ho3
      have hVm : ∀ v, v ∈ sset (varsOf ls) → v ∈ varsOf ls := fun v hv => ((sset_rises _).2 v).1 hv
      change w3.ownsRow w.heap.size 3 1 (.slice A3 (sset (varsOf ls)).length c3) (sset (varsOf ls)).length ((sset (varsOf ls)).map (Value.int .i64)) at ho3
      have hVl : (sset (varsOf ls)).length ≤ 1048576 := by
        have h1 : (sset (varsOf ls)).length ≤ ((varsOf ls).mergeSort fun x y => decide (x ≤ y)).length := compact_le _
        rw [List.length_mergeSort] at h1
        omega
      have hRng : ∀ v, v ∈ varsOf ls → 0 ≤ v ∧ v < 1048576 := fun v hv => by
        obtain ⟨l, hl, x, hx, rfl⟩ := varsOf_mem.1 hv
        obtain ⟨j, hj, rfl⟩ := List.getElem_of_mem hl
        exact (mayU_rise (Hall.out j hj)).rng x hx
      have HP : Hid (eachU F ls = (sset (varsOf ls)).map fun v => ⟨v, F (ls.map fun l => ofU l v)⟩) := rfl
      have ho4 : ∃ V m, V.length = m ∧ m ≤ 1048576 ∧ (∀ v ∈ V, v ∈ varsOf ls) ∧ RdI .i64 w3 w3.heap.size A3 m c3 V ∧ Lib.compact ((varsOf ls).mergeSort fun x y => decide (x ≤ y)) = V ∧ V.length = m ∧ eachU F ls = V.map fun v => ⟨v, F (ls.map fun l => ofU l v)⟩ :=
        ⟨_, _, rfl, hVl, hVm, RdI.of_own ho3, rfl, rfl, rfl⟩
      obtain ⟨V, m, hVm1, hm, hVin, hrV, hVe, hVm2, hE⟩ := ho4
      rw [hVe, hVm2]
      have HrV := Lib.hid hrV
      have HVin := Lib.hid hVin
      have HRng := Lib.hid hRng
      have HE := Lib.hid hE
      clear ho3 hVl hVm hRng HP hrV hVin hVe hVm2 hE Hs
      have hk3 := Hr.out.below hbel3
      have Hbel3 := Lib.hid hbel3
      clear hbel3 hk3
      go_wp2_with fail
      go_loopg [11, 45] m (fun gh out j wr => ∃ k2 : Nat, k2 ≤ m ∧ gh = m - k2 ∧ j = .int .i64 k2 ∧ OwnU wr w3.heap.size out k2 ((V.take k2).map fun v => ⟨v, F (ls.map fun l => ofU l v)⟩) ∧ Below w3.heap.size w3 wr)
      case atStart => exact ⟨0, Nat.zero_le _, rfl, rfl, OwnU.nil _ _, Below.refl _ _⟩
      case round =>
        obtain ⟨k2, hk2, rfl, rfl, hou, hbelu⟩ := hrel
        by_cases hkm : k2 < m
        · obtain ⟨b, o, q, hb, hc⟩ := (HrV.out.below hbelu).at_ (by omega)
          subst q
          have hk2' : k2 < V.length := by omega
          have v0 := hc k2 hk2'
          obtain ⟨v, hv⟩ : ∃ v, V[k2] = v := ⟨_, rfl⟩
          have hvin := HVin.out V[k2] (List.getElem_mem hk2')
          rw [hv] at v0 hvin
          have hstep : V.take (k2 + 1) = V.take k2 ++ [v] := by rw [← hv]; exact List.take_succ_eq_append_getElem hk2'
          have Hstep := Lib.hid hstep
          have Hou := Lib.hid hou
          have Hbelu := Lib.hid hbelu
          have j1 : (0 : Int) ≤ (k2 : Int) := by omega
          have j2 : (k2 : Int) < m := by omega
          have m63 : m ≤ 9223372036854775807 := by omega
          clear hc hou hbelu hstep hv
          obtain ⟨w4, hw4⟩ : ∃ w4, w4 = wr := ⟨_, rfl⟩
          subst hw4
          have hw34 : Below w.heap.size w w4 := Hbel3.out.trans (Hbelu.out.mono Hbel3.out.size)
          have Hw34 := Lib.hid hw34
          have Hvin := Lib.hid hvin
          clear hw34 hvin
          go_wp2_with fail
          go_loopg [14, 51] n (fun gh vt j wr2 => ∃ q : Nat, q ≤ n ∧ gh = n - q ∧ j = .int .i64 q ∧ OwnT wr2 w4.heap.size w.heap.size vt q ((ls.take q).map fun l => ofU l v) ∧ Below w4.heap.size w4 wr2)
          case atStart => exact ⟨0, Nat.zero_le _, rfl, rfl, OwnT.nil _ _ _, Below.refl _ _⟩
          case round =>
            obtain ⟨q, hq, rfl, rfl, hot, hbelt⟩ := hrel
            by_cases hqn : q < n
            · obtain ⟨b6, o6, q6, hb6, hc6⟩ := Hr.out.at_ (by omega)
              subst q6
              have hq' : q < ls.length := by omega
              obtain ⟨Ai, ni, ci, e0', hxi⟩ := hc6 q hq'
              have hbw : Below w.heap.size w wr := Hw34.out.trans (hbelt.mono Hw34.out.size)
              have e0 : wr.cell? ⟨b6, o6 + q, none⟩ = some (.slice Ai ni ci) := (hbw.cell (p := ⟨b6, o6 + q, none⟩) hb6).trans e0'
              have hni : ni ≤ 1048576 := by
                have h1 := varsOf_take_le ls q ni hq'
                rw [List.take_of_length_le (show ls[q].length ≤ ni by rw [hxi.len]; omega), hxi.len] at h1
                omega
              have hcall := ofU_low w.heap.size v Ai ni ci ls[q] wr (hxi.below hbw) hbw.size (mayU_rise (Hall.out q hq')) (by have := HRng.out v Hvin.out; omega) hni
              have Hcall := Lib.hid hcall
              have hstep : (ls.take (q + 1)).map (fun l => ofU l v) = (ls.take q).map (fun l => ofU l v) ++ [ofU ls[q] v] := by rw [List.take_succ_eq_append_getElem hq', List.map_append]; rfl
              have Hst := Lib.hid hstep
              have Hot := Lib.hid hot
              have Hbelt := Lib.hid hbelt
              have q1 : (0 : Int) ≤ (q : Int) := by omega
              have q2 : (q : Int) < n := by omega
              clear hc6 hxi e0' hcall hstep hot hbelt
              go_wp2_with fail
              refine Hcall.out.mono ?_; rintro e w5 ⟨A5, n5, c5, rfl, hr5, hb5⟩
              have hot5 := Hot.out.beyond hbw.size hb5
              have hbel5 := Hbelt.out.trans (hb5.mono Hbelt.out.size)
              obtain ⟨A6, c6, rfl⟩ : ∃ A6 c6, u14 = .slice A6 q c6 := by
                obtain ⟨_, cs, ho, _⟩ := hot5
                exact ownsRow_form ho
              have Hot5 := Lib.hid hot5
              have Hbel5 := Lib.hid hbel5
              clear hot5 hbel5 hb5 Hcall
              go_wp2_with (at_builtin; go_must (refine wpList_append_term w4 w5 rfl (.tmp 55) (.tmp 59) 84 rfl w4.heap.size w.heap.size i1 _ Try.underlying84 ht0 ht1 ht2 ht3 rfl (.slice A6 q c6) q _ rfl (ofU ls[q] v) A5 n5 c5 hr5 rfl Hot5.out (by omega) Hbel5.out Hbel5.out.size Hw34.out.size ?_); intro A7 c7 w7 ho7 hb7)
              go_roundg (n - (q + 1))
              case measure => omega
              case rel => exact ⟨q + 1, by omega, rfl, by go_num, by rw [Hst.out]; exact ho7, hb7⟩
            · have hqn' : q = n := by omega
              subst hqn'
              rw [List.take_of_length_le (by omega)] at hot
              obtain ⟨A6, c6, rfl⟩ : ∃ A6 c6, u14 = .slice A6 q c6 := by
                obtain ⟨_, cs, ho, _⟩ := hot
                exact ownsRow_form ho
              have hbw : Below w.heap.size w wr := Hw34.out.trans (hbelt.mono Hw34.out.size)
              have hcall := Hf.out v A6 q c6 wr Hvin.out hbw (hot.terms hbw.size).2
              obtain ⟨T, hT⟩ : ∃ T, F (ls.map fun l => ofU l v) = T := ⟨_, rfl⟩
              rw [hT] at hcall
              have HT := Lib.hid hT
              have Hcall := Lib.hid hcall
              have hou4 := Hou.out.beyond hbelt
              have Hou4 := Lib.hid hou4
              have hbu4 := Hbelu.out.trans (hbelt.mono Hbelu.out.size)
              have Hbu4 := Lib.hid hbu4
              obtain ⟨A8, c8, rfl⟩ := hou4.form
              clear hT hcall hot hbelt hou4 hbw hbu4 Hou Hbelu Hw34
              have Hlt := Lib.hid (Hou4.out.lt)
              go_wp2_with fail
              refine Hcall.out.mono ?_; rintro e w8 ⟨A9, n9, c9, rfl, hr9, hb9, hf9⟩
              have hou8 := Hou4.out.beyond hb9
              have hbu8 := Hbu4.out.trans (hb9.mono Hbu4.out.size)
              have hbx := below_box (w := w8) (Obj.cells #[.bool T.never, .int .u8 T.c, .slice A9 n9 c9] 37)
              have Hou9 := Lib.hid (hou8.beyond hbx)
              have Hbu9 := Lib.hid (hbu8.trans (hbx.mono hbu8.size))
              have Hr9 := Lib.hid ((hr9.below hbx).more hbx.size)
              have hne9 : 0 < n9 → ∃ a, A9 = some a ∧ some a.block ≠ (Value.slice A8 k2 c8).ownBlock := fun h => by
                obtain ⟨a, e, ha⟩ := hf9 h
                refine ⟨a, e, fun e' => ?_⟩
                have := (Hlt.out _ e'.symm).2
                omega
              have Hne9 := Lib.hid hne9
              clear hou8 hbu8 hbx hr9 hf9 hne9 hb9 Hou4 Hbu4 Hlt Hcall
              go_wp2_with (at_builtin; go_must (refine wpList_append_use w3 (w8.alloc (Obj.cells #[.bool T.never, .int .u8 T.c, .slice A9 n9 c9] 37)) rfl (.tmp 71) (.tmp 75) 25 rfl w3.heap.size i2 _ Try.underlying25 hu0 hu1 hu2 hu3 rfl (.slice A8 k2 c8) k2 _ rfl ⟨v, T⟩ A9 n9 c9 Hr9.out Hne9.out (by rw [World.size_alloc]; rfl) Hou9.out (by omega) Hbu9.out Hbu9.out.size ?_); intro A10 c10 w10 ho10 hb10)
              go_roundg (m - (k2 + 1))
              case measure => omega
              case rel => exact ⟨k2 + 1, by omega, rfl, by go_num, by rw [Hstep.out, List.map_append, List.map_cons, HT.out]; exact ho10, hb10⟩
        · have hkm' : m = k2 := by omega
          subst hkm'
          rw [List.take_of_length_le (by omega), ← HE.out] at hou
          obtain ⟨A8, c8, rfl⟩ := hou.form
          have hbw : Below w.heap.size w wr := Hbel3.out.trans (hbelu.mono Hbel3.out.size)
          have HU := Lib.hid (hou.uses.2)
          clear hou hbelu
          go_wp2_with fail
          exact bodyPost_ret (v := .tuple #[.slice A8 m c8, .int .i64 0]) (by simp [results, Try.results43, go_sem]) rfl ⟨A8, m, c8, rfl, HU.out, hbw⟩

end Go.Proofs.Ytimlbpjdgnapoaa
