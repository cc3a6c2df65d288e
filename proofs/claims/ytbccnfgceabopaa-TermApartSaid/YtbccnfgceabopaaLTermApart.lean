/- TermApart holds for every input: two terms that may be and are not the same are not alike under some assignment. No conditions. -/
import Derived.Test.YtbccnfgceabopaaApartW
import Derived.Deep.RegionHeld3
namespace Go.Proofs.Ytbccnfgceabopaa
set_option linter.unusedVariables false
set_option linter.unusedSimpArgs false
open Go.ChangeShapes Go.WideShapes Go.ChangeAt Go.RowKit

theorem may_at (v : Value) (t : TermD) (x : Int) (hx : mayE t = x) (w : World) (B : Nat) (hv : TermV w B v t) (hB : B ≤ w.heap.size) :
    Calls Try.prog 8 #[v] w fun e w' => e = .returned (.int .i64 x) ∧ Below w.heap.size w w' := by
  rw [← hx]; exact may_any v t w B hv hB

theorem may_vars' {t : TermD} (h : mayB t = true) : ∀ v ∈ t.vars, 0 ≤ v ∧ v < 1048576 := by
  intro v hv
  rcases (may_iff t).1 h with h | h
  · rw [h.2.2] at hv; simp at hv
  · exact h.2.2.2.2.2 v hv

set_option maxRecDepth 100000 in
set_option maxHeartbeats 4000000 in
theorem walkA_termApart (A : Option Addr) (n c : Nat) (a : TermD) (A2 : Option Addr) (n2 c2 : Nat) (b : TermD) (w : World) (hr : RdI .i64 w w.heap.size A n c a.vars) (hr2 : RdI .i64 w w.heap.size A2 n2 c2 b.vars) :
    Calls Try.prog 3 #[.agg #[.bool a.never, .int .u8 a.c, .slice A n c], .agg #[.bool b.never, .int .u8 b.c, .slice A2 n2 c2]] w fun e w' => e = .returned (.bool true) ∧ Below w.heap.size w w' := by
  have hmx := @run_max2 Try.prog
  have st1 := (St.start w).new a hr
  have st2 := st1.new b (st1.rd hr2)
  have hz2 : ((w.alloc (Obj.cells #[.bool a.never, .int .u8 a.c, .slice A n c] 25)).alloc (Obj.cells #[.bool b.never, .int .u8 b.c, .slice A2 n2 c2] 25)).heap.size = w.heap.size + 2 := by simp
  have hra := st2.rd hr
  have hrb := st2.rd hr2
  obtain ⟨G, hG⟩ : ∃ G, greatB [a, b] = G := ⟨_, rfl⟩
  have hgr := great2_any hra hrb
  rw [hG] at hgr
  have HG := Lib.hid hG
  have Hgr := Lib.hid hgr
  have Hst := Lib.hid st2
  have Hz := Lib.hid hz2
  clear hG hgr hr hr2 st1 st2 hra hrb hz2
  go_enter Try.func3, Try.ntmps3
  go_wp2_with fail
  rw [← Hz.out]
  refine Hgr.out.mono ?_; rintro e w3 ⟨rfl, hb3⟩
  have st := Hst.out.below hb3
  rw [show (w.alloc (Obj.cells #[.bool a.never, .int .u8 a.c, .slice A n c] 25)).heap.size = w.heap.size + 1 by simp] at st
  clear Hst hb3 Hgr
  cases G
  · obtain ⟨A4, n4, c4, x0, x1, x2, hr4⟩ := st.val w.heap.size a (by simp)
    have Hva := Lib.hid (great_vars HG.out a (by simp))
    have Hvb := Lib.hid (great_vars HG.out b (by simp))
    cases hma : mayB a
    · have HM := Lib.hid (mayE_no hma)
      clear hma
      go_wp2_with fail
      refine (may_at (.agg #[.bool a.never, .int .u8 a.c, .slice A4 n4 c4]) a _ HM.out w3 _ ⟨A4, n4, c4, rfl, hr4⟩ (Nat.le_refl _)).mono ?_; rintro e w4 ⟨rfl, hb4⟩
      replace st := st.below hb4
      go_wp2_with fail
      refine (works_any w4).mono ?_; rintro e w8 ⟨rfl, hb8⟩
      go_wp2_with fail
      go_ret
      exact ⟨rfl, st.bel.trans (hb8.mono st.bel.size)⟩
    · have HM := Lib.hid (mayE_yes hma)
      have HMa := Lib.hid hma
      clear hma
      go_wp2_with fail
      refine (may_at (.agg #[.bool a.never, .int .u8 a.c, .slice A4 n4 c4]) a _ HM.out w3 _ ⟨A4, n4, c4, rfl, hr4⟩ (Nat.le_refl _)).mono ?_; rintro e w4 ⟨rfl, hb4⟩
      replace st := st.below hb4
      clear x0 x1 x2 hr4 hb4 HM
      obtain ⟨A5, n5, c5, y0, y1, y2, hr5⟩ := st.val (w.heap.size + 1) b (by simp)
      cases hmb : mayB b
      · have HM := Lib.hid (mayE_no hmb)
        clear hmb
        go_wp2_with fail
        refine (may_at (.agg #[.bool b.never, .int .u8 b.c, .slice A5 n5 c5]) b _ HM.out w4 _ ⟨A5, n5, c5, rfl, hr5⟩ (Nat.le_refl _)).mono ?_; rintro e w5 ⟨rfl, hb5⟩
        replace st := st.below hb5
        go_wp2_with fail
        refine (works_any w5).mono ?_; rintro e w8 ⟨rfl, hb8⟩
        go_wp2_with fail
        go_ret
        exact ⟨rfl, st.bel.trans (hb8.mono st.bel.size)⟩
      · have HM := Lib.hid (mayE_yes hmb)
        have HMb := Lib.hid hmb
        clear hmb
        go_wp2_with fail
        refine (may_at (.agg #[.bool b.never, .int .u8 b.c, .slice A5 n5 c5]) b _ HM.out w4 _ ⟨A5, n5, c5, rfl, hr5⟩ (Nat.le_refl _)).mono ?_; rintro e w5 ⟨rfl, hb5⟩
        replace st := st.below hb5
        clear y0 y1 y2 hr5 hb5 HM
        obtain ⟨A6, n6, c6, x0, x1, x2, hr6⟩ := st.val w.heap.size a (by simp)
        obtain ⟨A7, n7, c7, y0, y1, y2, hr7⟩ := st.val (w.heap.size + 1) b (by simp)
        have hl6 := hr6.len
        have hl7 := hr7.len
        have h6 : n6 ≤ 5000 := by have := Hva.out; omega
        have h7 : n7 ≤ 5000 := by have := Hvb.out; omega
        have Hr6 := Lib.hid hr6
        have Hr7 := Lib.hid hr7
        have hg2 := st.lt w.heap.size a (by simp)
        have hg3 := st.lt (w.heap.size + 1) b (by simp)
        have Hl6 := Lib.hid hl6
        have Hl7 := Lib.hid hl7
        obtain ⟨i0, hi0, hi1, hi2, hi3⟩ := info_parts intInfo
        have kx : ∀ w', Below w5.heap.size w5 w' → w'.cell? ⟨w.heap.size, 0, none⟩ = some (.bool a.never) ∧ w'.cell? ⟨w.heap.size, 1, none⟩ = some (.int .u8 a.c) ∧ w'.cell? ⟨w.heap.size, 2, none⟩ = some (.slice A6 n6 c6) ∧ w'.cell? ⟨w.heap.size + 1, 0, none⟩ = some (.bool b.never) ∧ w'.cell? ⟨w.heap.size + 1, 1, none⟩ = some (.int .u8 b.c) ∧ w'.cell? ⟨w.heap.size + 1, 2, none⟩ = some (.slice A7 n7 c7) ∧ RdI .i64 w' w'.heap.size A6 n6 c6 a.vars ∧ RdI .i64 w' w'.heap.size A7 n7 c7 b.vars ∧ BoxT w' w.heap.size a ∧ BoxT w' (w.heap.size + 1) b :=
          fun w' hb => ⟨(hb.cell (p := ⟨w.heap.size, 0, none⟩) hg2).trans x0, (hb.cell (p := ⟨w.heap.size, 1, none⟩) hg2).trans x1, (hb.cell (p := ⟨w.heap.size, 2, none⟩) hg2).trans x2, (hb.cell (p := ⟨w.heap.size + 1, 0, none⟩) hg3).trans y0, (hb.cell (p := ⟨w.heap.size + 1, 1, none⟩) hg3).trans y1, (hb.cell (p := ⟨w.heap.size + 1, 2, none⟩) hg3).trans y2, (hr6.below hb).more hb.size, (hr7.below hb).more hb.size, (st.box (w.heap.size, a) (by simp)).below hb, (st.box (w.heap.size + 1, b) (by simp)).below hb⟩
        have Kx := Lib.hid kx
        have Hst5 := Lib.hid st.bel
        clear hr6 hr7 hl6 hl7 kx
        go_wp2_with fail
        go_region_held3 (fun w' => w'.cell? ⟨w.heap.size, 2, none⟩ = some (.slice A6 n6 c6) ∧ w'.cell? ⟨w.heap.size + 1, 2, none⟩ = some (.slice A7 n7 c7))
          (first | exact ⟨(hbx.cell (p := ⟨w.heap.size, 2, none⟩) hg2).trans x2, (hbx.cell (p := ⟨w.heap.size + 1, 2, none⟩) hg3).trans y2⟩ | exact ⟨x2, y2⟩ | go_keep)
          (first
            | (go_at_call 10; refine (cloneI_any A6 n6 c6 a.vars w5.drew w5.heap.size (Hr6.out.keep (w' := w5.drew) fun _ _ => rfl) (by omega)).mono ?_; rintro e w6 ⟨A8, c8, rfl, hown8, hb8⟩; have hbx : Below w5.heap.size w5 w6 := ((Below.refl _ _).drew).trans hb8)
            | (refine step_append_rd (o := ⟨some 36, _, _, _, _, _⟩) _ (by rfl) (.tmp 33) (.tmp 35) 23 (by rfl) w5.heap.size 3 i0 _ 1 8 Try.underlying23 hi0 hi1 hi2 hi3 rfl (by omega) (.slice A8 n6 c8) n6 (a.vars.map (Value.int .i64)) (by rfl) hown8 w5.heap.size A7 n7 c7 (b.vars.map (Value.int .i64)) (by rfl) (Hr7.out.below hbx).1 (by intro u hu; obtain ⟨x, _, rfl⟩ := List.mem_map.1 hu; rfl) (by unfold maxLen; omega) (by omega) hbx.size ?_; intro v7 w7 ho7 hg7 hat7; have hbx := hbx.grown hg7 hbx.size (fun j hj => (hown8.lt j hj).1); obtain ⟨A9, c9, rfl⟩ := ownsRow_form ho7))
        all_goals
          have hr8 : RdI .i64 w7 w7.heap.size A9 (n6 + n7) c9 (a.vars ++ b.vars) := RdI.of_own (by rw [List.map_append]; exact ho7)
          replace st := st.below hbx
          have hL : ∀ v ∈ a.vars ++ b.vars, 0 ≤ v ∧ v < 1048576 := by
            intro v hv
            rcases List.mem_append.1 hv with hv | hv
            · exact may_vars' HMa.out v hv
            · exact may_vars' HMb.out v hv
          have hnL : (a.vars ++ b.vars).length = n6 + n7 := hr8.len
          generalize hLL : a.vars ++ b.vars = LL at hr8 hL hnL
          have HL := Lib.hid hL
          have HLL := Lib.hid hLL
          have HnL := Lib.hid hnL
          have Hbx := Lib.hid hbx
          clear ho7 hat7 hg7 hown8 hb8 hL hLL hnL x0 x1 x2 y0 y1 y2 hbx
          go_wp2_with fail
          go_loopg [5, 38] (n6 + n7) (fun gh m i wr => ∃ k : Nat, k ≤ n6 + n7 ∧ gh = n6 + n7 - k ∧ i = .int .i64 k ∧ m = .int .i64 (maxN (LL.take k)) ∧ wr = w7)
          case atStart => exact ⟨0, Nat.zero_le _, rfl, rfl, rfl, rfl⟩
          case round =>
            obtain ⟨k, hk, rfl, rfl, rfl, rfl⟩ := hrel
            by_cases hlk : k < n6 + n7
            · have hk' : k < LL.length := by rw [HnL.out]; exact hlk
              obtain ⟨bb, off, rfl, hbk, hcell⟩ := hr8.at_ (by omega)
              have q0 := hcell k hk'
              have hV := HL.out LL[k] (List.getElem_mem hk')
              have htk : LL.take (k + 1) = LL.take k ++ [LL[k]] := by rw [List.take_succ_eq_append_getElem hk']
              have hm1 := maxN_pos (LL.take k)
              have hm2 : maxN (LL.take k) ≤ 1048576 := maxN_le _ _ _ (by omega) (fun v hv => by have := HL.out v (List.mem_of_mem_take hv); omega)
              generalize LL[k] = V at q0 hV htk
              have Hst : Hid (maxN (LL.take (k + 1)) = max (maxN (LL.take k)) (V + 1)) := by show _ = _; rw [htk, maxN_snoc]
              generalize maxN (LL.take k) = MM at hm1 hm2 Hst ⊢
              clear htk hcell
              go_wp2_with fail
              go_roundg (n6 + n7 - (k + 1))
              case measure => omega
              case rel => exact ⟨k + 1, by omega, rfl, by go_num, by rw [Hst.out], rfl⟩
            · have hkn : k = n6 + n7 := by omega
              have hall : LL.take k = LL := List.take_of_length_le (by rw [HnL.out]; omega)
              rw [hall]
              have hm1 := maxN_pos LL
              have hm2 : maxN LL ≤ 1048576 := maxN_le _ _ _ (by omega) (fun v hv => by have := HL.out v hv; omega)
              have Hlt := Lib.hid (maxN_lt LL)
              obtain ⟨N, hN⟩ : ∃ N : Nat, maxN LL = (N : Int) := ⟨(maxN LL).toNat, (Int.toNat_of_nonneg (by omega)).symm⟩
              rw [hN] at hm1 hm2 Hlt ⊢
              clear hall hN hr8
              have hmk := make_mults N (by omega) wr
              have Hpart := Lib.hid (apart_law (a := a) (b := b) (n := N) HMa.out HMb.out (fun v hv => Hlt.out v (by rw [← HLL.out]; exact List.mem_append.2 (.inl hv))) (fun v hv => Hlt.out v (by rw [← HLL.out]; exact List.mem_append.2 (.inr hv))))
              have hap : ApSt w5 (wr.heap.size + 1) wr.heap.size N (fillL N 0) ((wr.alloc (Obj.cells (zerosA N) 22)).alloc (Obj.cells #[.slice (some ⟨wr.heap.size, 0, none⟩) N N] 31)) := by
                have hz := blk_new wr (zerosA N) 22
                have hv := blk_new (wr.alloc (Obj.cells (zerosA N) 22)) #[.slice (some ⟨wr.heap.size, 0, none⟩) N N] 31
                rw [show (wr.alloc (Obj.cells (zerosA N) 22)).heap.size = wr.heap.size + 1 by simp] at hv
                exact ⟨(Hbx.out.alloc Hbx.out.size _).alloc (by have := Hbx.out.size; simp; omega) _, hv, by unfold fillL; exact hz.alloc _, Hbx.out.size, by omega⟩
              have hw5 := st.bel
              go_wp2_with fail
              generalize (wr.alloc (Obj.cells (zerosA N) 22)).alloc (Obj.cells #[.slice (some ⟨wr.heap.size, 0, none⟩) N N] 31) = wa at hap ⊢
              generalize wr.heap.size + 1 = g8 at hap ⊢
              generalize wr.heap.size = GG at hap hmk ⊢
              clear hmk
              go_loopg [51] N (fun gh i wx => ∃ m : Nat, m ≤ N ∧ gh = N - m ∧ i = .int .i64 m ∧ ApSt w5 g8 GG N (fillL N m) wx)
              case atStart => exact ⟨0, Nat.zero_le _, rfl, rfl, hap⟩
              case round =>
                obtain ⟨m, hm, rfl, rfl, apm⟩ := hrel
                by_cases hlm : m < N
                · have p0 := apm.var
                  have p1 := apm.cell m (by rw [fillL_len (by omega)]; exact hlm)
                  have p2 := apm.frozen m
                  have hap' := apm.put m 1
                  rw [fillL_set hlm] at hap'
                  have Hap := Lib.hid hap'
                  clear hap' apm
                  go_wp2_with fail
                  go_roundg (N - (m + 1))
                  case measure => omega
                  case rel => exact ⟨m + 1, by omega, rfl, by go_num, Hap.out⟩
                · have hmN : m = N := by omega
                  subst hmN
                  rw [fillL_all] at apm
                  have Hb := Lib.hid (alike_any a b w.heap.size (w.heap.size + 1) g8 _ m m (ones m) wr (Kx.out _ apm.bel).2.2.2.2.2.2.2.2.1 (Kx.out _ apm.bel).2.2.2.2.2.2.2.2.2 apm.v8 (apm.rd (by simp [ones]) (by unfold maxLen; omega)))
                  obtain ⟨rb, hrb⟩ : ∃ rb, alikeB a b (ones m) = rb := ⟨_, rfl⟩
                  rw [hrb] at Hb Hpart
                  have Hap := Lib.hid apm
                  clear hrb apm
                  go_wp2_with fail
                  refine Hb.out.mono ?_; rintro e wb ⟨rfl, hbb⟩
                  have apb := Hap.out.below hbb
                  obtain ⟨x0, x1, x2, y0, y1, y2, -, -, -, -⟩ := Kx.out _ apb.bel
                  have hHb := blk_new wb #[.bool a.never, .int .u8 a.c, .slice A6 n6 c6, .bool b.never, .int .u8 b.c, .slice A7 n7 c7] 25
                  have apH := apb.below (below_box (w := wb) (Obj.cells #[.bool a.never, .int .u8 a.c, .slice A6 n6 c6, .bool b.never, .int .u8 b.c, .slice A7 n7 c7] 25))
                  have hGH : GG < wb.heap.size := Blk.lt apb.m
                  clear Hb hbb Hap
                  go_wp2_with fail
                  generalize wb.alloc (Obj.cells #[.bool a.never, .int .u8 a.c, .slice A6 n6 c6, .bool b.never, .int .u8 b.c, .slice A7 n7 c7] 25) = wh at hHb apH ⊢
                  generalize wb.heap.size = HH at hHb hGH ⊢
                  clear x0 x1 x2 y0 y1 y2 apb
                  go_loopg [11, 65] 2 (fun gh al i wx => ∃ q : Nat, q ≤ 2 ∧ gh = 2 - q ∧ i = .int .i64 q ∧ al = .bool (rb && ((if q = 0 then [] else if q = 1 then a.vars else a.vars ++ b.vars : List Int)).all (fun v => alikeB a b (many m v))) ∧ ApSt w5 g8 GG m (ones m) wx ∧ Blk wx HH 25 #[.bool a.never, .int .u8 a.c, .slice A6 n6 c6, .bool b.never, .int .u8 b.c, .slice A7 n7 c7])
                  case atStart => exact ⟨0, by omega, rfl, rfl, by simp, apH, hHb⟩
                  case round =>
                    obtain ⟨q, hq, rfl, rfl, rfl, apq, hHq⟩ := hrel
                    have e0 : wr.cell? ⟨HH, 0, none⟩ = some (.bool a.never) := hHq.cell 0
                    have e1 : wr.cell? ⟨HH, 1, none⟩ = some (.int .u8 a.c) := hHq.cell 1
                    have e2 : wr.cell? ⟨HH, 2, none⟩ = some (.slice A6 n6 c6) := hHq.cell 2
                    have e3 : wr.cell? ⟨HH, 3, none⟩ = some (.bool b.never) := hHq.cell 3
                    have e4 : wr.cell? ⟨HH, 4, none⟩ = some (.int .u8 b.c) := hHq.cell 4
                    have e5 : wr.cell? ⟨HH, 5, none⟩ = some (.slice A7 n7 c7) := hHq.cell 5
                    match q, hq with
                    | 0, _ =>
                      have apV := apq.below (below_box (w := wr) (Obj.cells #[.bool a.never, .int .u8 a.c, .slice A6 n6 c6] 25))
                      have hHV := hHq.alloc (Obj.cells #[.bool a.never, .int .u8 a.c, .slice A6 n6 c6] 25)
                      simp only [if_true, List.all_nil, Bool.and_true]
                      clear apq hHq
                      go_wp2_with fail
                      generalize wr.alloc (Obj.cells #[.bool a.never, .int .u8 a.c, .slice A6 n6 c6] 25) = wv at apV hHV ⊢
                      clear e0 e1 e2 e3 e4 e5
                      go_loopg [11, 72] n6 (fun gh al i wx => ∃ j : Nat, j ≤ n6 ∧ gh = n6 - j ∧ i = .int .i64 j ∧ al = .bool (rb && (a.vars.take j).all (fun v => alikeB a b (many m v))) ∧ ApSt w5 g8 GG m (ones m) wx ∧ Blk wx HH 25 #[.bool a.never, .int .u8 a.c, .slice A6 n6 c6, .bool b.never, .int .u8 b.c, .slice A7 n7 c7])
                      case atStart => exact ⟨0, Nat.zero_le _, rfl, rfl, by simp, apV, hHV⟩
                      case round =>
                        obtain ⟨j, hj, rfl, rfl, rfl, apj, hHj⟩ := hrel
                        have hRD := (Kx.out _ apj.bel).2.2.2.2.2.2.1
                        have hlr := hRD.len
                        by_cases hlj : j < n6
                        · have hj' : j < a.vars.length := by rw [hlr]; exact hlj
                          obtain ⟨bb, off, rfl, hbk, hcell⟩ := hRD.at_ (by omega)
                          have q0 := hcell j hj'
                          have hV := HL.out a.vars[j] (by rw [← HLL.out]; exact List.mem_append_left _ (List.getElem_mem hj'))
                          have hVN := Hlt.out a.vars[j] (by rw [← HLL.out]; exact List.mem_append_left _ (List.getElem_mem hj'))
                          have htj : a.vars.take (j + 1) = a.vars.take j ++ [a.vars[j]] := by rw [List.take_succ_eq_append_getElem hj']
                          generalize a.vars[j] = V at q0 hV hVN htj
                          obtain ⟨z, rfl⟩ : ∃ z : Nat, V = (z : Int) := ⟨V.toNat, (Int.toNat_of_nonneg hV.1).symm⟩
                          have hzN : z < m := by omega
                          have hst : (rb && (a.vars.take (j + 1)).all fun v => alikeB a b (many m v)) = ((rb && (a.vars.take j).all fun v => alikeB a b (many m v)) && alikeB a b (many m (z : Int))) := by rw [htj, List.all_append]; simp [Bool.and_assoc]
                          generalize (rb && (a.vars.take j).all fun v => alikeB a b (many m v)) = ob at hst ⊢
                          have p0 := apj.var
                          have p1 := apj.cell z (by simp [ones]; exact hzN)
                          have p2 := apj.frozen z
                          have hap3 := apj.put z 3
                          have hH3 := hHj.other (g' := GG) (show GG ≠ HH by omega) z (.int .u8 3)
                          rw [show (ones m).set z 3 = many m (z : Int) by unfold many; rw [Int.toNat_natCast]] at hap3
                          have hq3 := alike_any a b w.heap.size (w.heap.size + 1) g8 _ m m (many m (z : Int)) (wr.setCell ⟨GG, z, none⟩ (.int .u8 3)) (Kx.out _ hap3.bel).2.2.2.2.2.2.2.2.1 (Kx.out _ hap3.bel).2.2.2.2.2.2.2.2.2 hap3.v8 (hap3.rd (by simp [many, ones]) (by unfold maxLen; omega))
                          obtain ⟨qb, hqb⟩ : ∃ qb, alikeB a b (many m (z : Int)) = qb := ⟨_, rfl⟩
                          rw [hqb] at hq3 hst
                          have Hst := Lib.hid hst
                          have Hap3 := Lib.hid hap3
                          have HH3 := Lib.hid hH3
                          have Hq3 := Lib.hid hq3
                          clear htj hcell hlr apj hHj hap3 hH3 hq3 hst hqb hRD hbk
                          go_wp2_with fail
                          refine Hq3.out.mono ?_; rintro e wy ⟨rfl, hby⟩
                          have apy := Hap3.out.below hby
                          have hHy := HH3.out.below hby (Blk.lt HH3.out)
                          have r0 := apy.var
                          have r1 := apy.cell z (by simp [many, ones]; exact hzN)
                          have r2 := apy.frozen z
                          have hap4 := apy.put z 1
                          rw [many_back] at hap4
                          have Hap4 := Lib.hid hap4
                          have HH4 := Lib.hid (hHy.other (g' := GG) (show GG ≠ HH by omega) z (.int .u8 1))
                          clear p0 p1 p2 apy hHy hap4 hby Hap3 HH3 Hq3 q0
                          cases qb
                          · have Hst' : Hid ((rb && (a.vars.take (j + 1)).all fun v => alikeB a b (many m v)) = false) := by show _ = _; rw [Hst.out]; simp
                            clear Hst
                            go_wp2_with fail
                            go_roundg (n6 - (j + 1))
                            case measure => omega
                            case rel => exact ⟨j + 1, by omega, rfl, by go_num, by rw [Hst'.out], Hap4.out, HH4.out⟩
                          · have Hst' : Hid ((rb && (a.vars.take (j + 1)).all fun v => alikeB a b (many m v)) = ob) := by show _ = _; rw [Hst.out]; simp
                            clear Hst
                            go_wp2_with fail
                            go_roundg (n6 - (j + 1))
                            case measure => omega
                            case rel => exact ⟨j + 1, by omega, rfl, by go_num, by rw [Hst'.out], Hap4.out, HH4.out⟩
                        · have hjm : j = n6 := by omega
                          subst hjm
                          have Hev : Hid ((rb && (a.vars.take j).all fun v => alikeB a b (many m v)) = (rb && ((if 0 + 1 = 0 then [] else if 0 + 1 = 1 then a.vars else a.vars ++ b.vars : List Int)).all fun v => alikeB a b (many m v))) := by
                            show _ = _
                            rw [List.take_of_length_le (by rw [hlr]; exact Nat.le_refl _)]
                            simp
                          generalize (rb && (a.vars.take j).all fun v => alikeB a b (many m v)) = ob at Hev ⊢
                          clear hRD hlr
                          go_wp2_with fail
                          go_roundg (2 - (0 + 1))
                          case measure => omega
                          case rel => exact ⟨0 + 1, by omega, rfl, by go_num, by rw [Hev.out]; first | done | simp, apj, hHj⟩
                    | 1, _ =>
                      have apV := apq.below (below_box (w := wr) (Obj.cells #[.bool b.never, .int .u8 b.c, .slice A7 n7 c7] 25))
                      have hHV := hHq.alloc (Obj.cells #[.bool b.never, .int .u8 b.c, .slice A7 n7 c7] 25)
                      obtain ⟨rc, hrc⟩ : ∃ rc, (rb && ((if 1 = 0 then [] else if 1 = 1 then a.vars else a.vars ++ b.vars : List Int)).all fun v => alikeB a b (many m v)) = rc := ⟨_, rfl⟩
                      rw [hrc]
                      have Hrc : Hid (rc = (rb && a.vars.all fun v => alikeB a b (many m v))) := by show _ = _; rw [← hrc]; simp
                      clear apq hHq hrc
                      go_wp2_with fail
                      generalize wr.alloc (Obj.cells #[.bool b.never, .int .u8 b.c, .slice A7 n7 c7] 25) = wv at apV hHV ⊢
                      clear e0 e1 e2 e3 e4 e5
                      go_loopg [11, 72] n7 (fun gh al i wx => ∃ j : Nat, j ≤ n7 ∧ gh = n7 - j ∧ i = .int .i64 j ∧ al = .bool (rc && (b.vars.take j).all (fun v => alikeB a b (many m v))) ∧ ApSt w5 g8 GG m (ones m) wx ∧ Blk wx HH 25 #[.bool a.never, .int .u8 a.c, .slice A6 n6 c6, .bool b.never, .int .u8 b.c, .slice A7 n7 c7])
                      case atStart => exact ⟨0, Nat.zero_le _, rfl, rfl, by simp, apV, hHV⟩
                      case round =>
                        obtain ⟨j, hj, rfl, rfl, rfl, apj, hHj⟩ := hrel
                        have hRD := (Kx.out _ apj.bel).2.2.2.2.2.2.2.1
                        have hlr := hRD.len
                        by_cases hlj : j < n7
                        · have hj' : j < b.vars.length := by rw [hlr]; exact hlj
                          obtain ⟨bb, off, rfl, hbk, hcell⟩ := hRD.at_ (by omega)
                          have q0 := hcell j hj'
                          have hV := HL.out b.vars[j] (by rw [← HLL.out]; exact List.mem_append_right _ (List.getElem_mem hj'))
                          have hVN := Hlt.out b.vars[j] (by rw [← HLL.out]; exact List.mem_append_right _ (List.getElem_mem hj'))
                          have htj : b.vars.take (j + 1) = b.vars.take j ++ [b.vars[j]] := by rw [List.take_succ_eq_append_getElem hj']
                          generalize b.vars[j] = V at q0 hV hVN htj
                          obtain ⟨z, rfl⟩ : ∃ z : Nat, V = (z : Int) := ⟨V.toNat, (Int.toNat_of_nonneg hV.1).symm⟩
                          have hzN : z < m := by omega
                          have hst : (rc && (b.vars.take (j + 1)).all fun v => alikeB a b (many m v)) = ((rc && (b.vars.take j).all fun v => alikeB a b (many m v)) && alikeB a b (many m (z : Int))) := by rw [htj, List.all_append]; simp [Bool.and_assoc]
                          generalize (rc && (b.vars.take j).all fun v => alikeB a b (many m v)) = ob at hst ⊢
                          have p0 := apj.var
                          have p1 := apj.cell z (by simp [ones]; exact hzN)
                          have p2 := apj.frozen z
                          have hap3 := apj.put z 3
                          have hH3 := hHj.other (g' := GG) (show GG ≠ HH by omega) z (.int .u8 3)
                          rw [show (ones m).set z 3 = many m (z : Int) by unfold many; rw [Int.toNat_natCast]] at hap3
                          have hq3 := alike_any a b w.heap.size (w.heap.size + 1) g8 _ m m (many m (z : Int)) (wr.setCell ⟨GG, z, none⟩ (.int .u8 3)) (Kx.out _ hap3.bel).2.2.2.2.2.2.2.2.1 (Kx.out _ hap3.bel).2.2.2.2.2.2.2.2.2 hap3.v8 (hap3.rd (by simp [many, ones]) (by unfold maxLen; omega))
                          obtain ⟨qb, hqb⟩ : ∃ qb, alikeB a b (many m (z : Int)) = qb := ⟨_, rfl⟩
                          rw [hqb] at hq3 hst
                          have Hst := Lib.hid hst
                          have Hap3 := Lib.hid hap3
                          have HH3 := Lib.hid hH3
                          have Hq3 := Lib.hid hq3
                          clear htj hcell hlr apj hHj hap3 hH3 hq3 hst hqb hRD hbk
                          go_wp2_with fail
                          refine Hq3.out.mono ?_; rintro e wy ⟨rfl, hby⟩
                          have apy := Hap3.out.below hby
                          have hHy := HH3.out.below hby (Blk.lt HH3.out)
                          have r0 := apy.var
                          have r1 := apy.cell z (by simp [many, ones]; exact hzN)
                          have r2 := apy.frozen z
                          have hap4 := apy.put z 1
                          rw [many_back] at hap4
                          have Hap4 := Lib.hid hap4
                          have HH4 := Lib.hid (hHy.other (g' := GG) (show GG ≠ HH by omega) z (.int .u8 1))
                          clear p0 p1 p2 apy hHy hap4 hby Hap3 HH3 Hq3 q0
                          cases qb
                          · have Hst' : Hid ((rc && (b.vars.take (j + 1)).all fun v => alikeB a b (many m v)) = false) := by show _ = _; rw [Hst.out]; simp
                            clear Hst
                            go_wp2_with fail
                            go_roundg (n7 - (j + 1))
                            case measure => omega
                            case rel => exact ⟨j + 1, by omega, rfl, by go_num, by rw [Hst'.out], Hap4.out, HH4.out⟩
                          · have Hst' : Hid ((rc && (b.vars.take (j + 1)).all fun v => alikeB a b (many m v)) = ob) := by show _ = _; rw [Hst.out]; simp
                            clear Hst
                            go_wp2_with fail
                            go_roundg (n7 - (j + 1))
                            case measure => omega
                            case rel => exact ⟨j + 1, by omega, rfl, by go_num, by rw [Hst'.out], Hap4.out, HH4.out⟩
                        · have hjm : j = n7 := by omega
                          subst hjm
                          have Hev : Hid ((rc && (b.vars.take j).all fun v => alikeB a b (many m v)) = (rb && ((if 1 + 1 = 0 then [] else if 1 + 1 = 1 then a.vars else a.vars ++ b.vars : List Int)).all fun v => alikeB a b (many m v))) := by
                            show _ = _
                            rw [List.take_of_length_le (by rw [hlr]; exact Nat.le_refl _)]
                            (rw [Hrc.out]; simp [Bool.and_assoc])
                          generalize (rc && (b.vars.take j).all fun v => alikeB a b (many m v)) = ob at Hev ⊢
                          clear hRD hlr
                          go_wp2_with fail
                          go_roundg (2 - (1 + 1))
                          case measure => omega
                          case rel => exact ⟨1 + 1, by omega, rfl, by go_num, by rw [Hev.out]; first | done | simp, apj, hHj⟩
                    | 2, _ =>
                      have Hfin : Hid ((rb && ((if 2 = 0 then [] else if 2 = 1 then a.vars else a.vars ++ b.vars : List Int)).all fun v => alikeB a b (many m v)) = sameB a b) := by
                        show _ = _
                        rw [← Hpart.out]
                        simp
                      rw [Hfin.out]
                      obtain ⟨z0, z1, z2, z3, z4, z5, hR6, hR7, -, -⟩ := Kx.out _ apq.bel
                      have Hsm := Lib.hid (same_any (.agg #[.bool a.never, .int .u8 a.c, .slice A6 n6 c6]) (.agg #[.bool b.never, .int .u8 b.c, .slice A7 n7 c7]) a b wr _ _ ⟨A6, n6, c6, rfl, hR6⟩ ⟨A7, n7, c7, rfl, hR7⟩ (Nat.le_refl _) (Nat.le_refl _))
                      have hbw := (Hst5.out).trans (apq.bel.mono Hst5.out.size)
                      obtain ⟨sb, hsb⟩ : ∃ sb, sameB a b = sb := ⟨_, rfl⟩
                      rw [hsb] at Hsm ⊢
                      clear Hfin Hpart hR6 hR7 e0 e1 e2 e3 e4 e5 hsb apq hHq
                      go_wp2_with fail
                      refine Hsm.out.mono ?_; rintro e wz ⟨rfl, hbz⟩
                      have hbw2 := hbw.trans (hbz.mono hbw.size)
                      go_wp2_with fail
                      refine (works_any wz).mono ?_; rintro e w8 ⟨rfl, hb8⟩
                      go_wp2_with fail
                      go_ret
                      exact ⟨rfl, hbw2.trans (hb8.mono hbw2.size)⟩
  · have st' := st.bel
    go_wp2_with fail
    refine (works_any w3).mono ?_; rintro e w8 ⟨rfl, hb8⟩
    go_wp2_with fail
    go_ret
    exact ⟨rfl, st'.trans (hb8.mono st'.size)⟩

theorem walk_termApart (v1 : Value) (w : World) (h1 : TermIn w v1) (v2 : Value) (h2 : TermIn w v2) :
    Calls Try.prog 3 #[v1, v2] w fun e w' => e = .returned (.bool true) ∧ Below w.heap.size w w' := by
  obtain ⟨a, ⟨A, n, c, rfl, hr⟩, _⟩ := h1
  obtain ⟨b, ⟨A2, n2, c2, rfl, hr2⟩, _⟩ := h2
  exact walkA_termApart A n c a A2 n2 c2 b w hr hr2

/-! ### the row's step -/
namespace termApart
set_option maxRecDepth 100000 in
theorem lifted (os : Os) (started : os.Started) (H : Type) (enc : TypeId × Value → H) :
    ReturnsInHanded {} Try.checked os 3 .any (Rows.termApartSpec.pre6 enc Try.prog Try.f3 Rows.termApartRow.domain false) (Rows.termApartSpec.post enc Try.prog Try.f3 false true false false) := by
  refine returnsInHanded_of_change_sized (C := Try.checked) own started (by kernel_rfl) Try.func3
    (ChangeSpec.witness6 (enc := enc) (C := Try.checked) false ⟨#[], #[.agg #[.bool false, .int .u8 0, .slice none 0 0], .agg #[.bool false, .int .u8 0, .slice none 0 0]], []⟩ 8 (by kernel_rfl) (by kernel_rfl) (by kernel_rfl) (by kernel_rfl)) ?_
  intro W base args ds gs before hval0 hW hcnd hsz0 _
  have hsz : (DataW.weightsEach Try.prog (Try.f3.params.toList ++ Rows.termApartSpec.plain.varTypes Try.prog) (ds ++ gs)).all (· ≤ reachBytes) = true := hsz0
  have hval : ∀ (j : Nat) t v, Try.f3.params[j]? = some t → args[j]? = some v → Value.okWide Try.prog W .any base t v := hval0
  have hW' := hW
  obtain ⟨p, q, hA0, hV, rfl, hfz, hnd⟩ := hW
  have hA : DataW.TrodAll enc Try.prog W 0 (fun _ => true) true Try.f3.params.toList args.toList ds p := hA0
  rw [Try.params3] at hA hval hsz
  obtain ⟨v0, vs0, d0, ds0, p0, q0, hargs, rfl, rfl, h0, r_0⟩ := trodAll_cons hA
  obtain ⟨v1, vs1, d1, ds1, p1, q1, rfl, rfl, rfl, h1, r_1⟩ := trodAll_cons r_0
  obtain ⟨rfl, rfl, rfl⟩ := trodAll_nil r_1
  obtain rfl : args = #[v0, v1] := by cases args; simp_all
  obtain ⟨rfl, rfl⟩ := trodVars_none hV
  have w0 := rd_term (hval 0 25 v0 rfl rfl) h0
  have w1 := rd_term (hval 1 25 v1 rfl rfl) h1
  refine (walk_termApart (w := W) v0 w0 v1 w1).mono fun e W' ⟨he, bel⟩ => ?_
  subst he
  exact ⟨_, rfl, law_post laidOut (by kernel_rfl) rfl rfl Try.underlying4 hW' rfl rfl rfl bel⟩
theorem over : Rows.termApartRow.holds Try.pinned (OpenSpec.ofChange Rows.termApartSpec) :=
  OpenClaim.holds_of_wide 3 Try.f3 rfl rfl rfl rfl rfl rfl rfl ⟨rfl, rfl, rfl, rfl, rfl⟩ rfl rfl rfl rfl rfl (by kernel_rfl) Try.func3 (by kernel_rfl)
    (of_decide_eq_true (by kernel_rfl)) (by unfold Func.isWrapper; first | (rw [if_pos (by decide +kernel)]; kernel_rfl) | (rw [if_neg (by decide +kernel)]; exact ⟨rfl, rfl⟩))
    (fun os started H enc _ => lifted os started H enc)
/-- the statement -/
theorem proved : Rows.TermApartSaid := over
#print axioms proved
end termApart
end Go.Proofs.Ytbccnfgceabopaa
