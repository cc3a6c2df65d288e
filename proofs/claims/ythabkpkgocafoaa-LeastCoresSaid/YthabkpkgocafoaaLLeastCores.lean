/- LeastCores holds for every input: where any inequalities have no solution over any least ones, the core that is told has none either, and without any one of it has some. No conditions. -/
import Derived.Test.YthabkpkgocafoaaLawC
import Derived.Test.YthabkpkgocafoaaDelQ
import Derived.Test.YthabkpkgocafoaaRowQ
namespace Go.Proofs.Ythabkpkgocafoaa
set_option linter.unusedVariables false
set_option linter.unusedSimpArgs false
open Go.ChangeShapes Go.WideShapes Go.ChangeAt Go.RowKit

theorem rd_new4q (w : World) (x : IneqD) (t : TypeId) : Rd (w.alloc (Obj.cells (cellsQ [x]).toArray t)) (w.heap.size + 1) 4 (some ⟨w.heap.size, 0, none⟩) 1 (cellsQ [x]) :=
  ⟨rfl, fun _ => ⟨w.heap.size, 0, rfl, Nat.lt_succ_self _, fun j u hu => by rw [Nat.zero_add, World.cell?_alloc_new]; simpa using hu⟩⟩
theorem picks_len (xs : List IneqD) (core : List Int) : (picks xs core).length = core.length := by simp [picks]
set_option maxRecDepth 100000 in
set_option maxHeartbeats 4000000 in
theorem walkA_leastCores (n : Int) (Aw : Option Addr) (nw cw : Nat) (low : List Int) (Al : Option Addr) (nl cl : Nat) (xs : List IneqD) (w : World) (hlw : RdI .u8 w w.heap.size Aw nw cw low) (hx : IneqsV w w.heap.size Al nl cl xs) :
    Calls Try.prog 6 #[.int .i64 n, .slice Aw nw cw, .slice Al nl cl] w fun e w' => e = .returned (.bool true) ∧ Below w.heap.size w w' := by
  obtain ⟨i0, hi0, hz0, hz1, hz2⟩ := info_parts ineqInfo
  have hxl := hx.len
  have nl63 : nl ≤ 9223372036854775807 := Nat.le_trans hx.2.1 hx.2.2.1
  have Hlw := Lib.hid hlw
  have Hx := Lib.hid hx
  clear hlw hx
  cases hG : greatL n nw nl with
  | true =>
    have HG := Lib.hid hG
    clear hG
    go_enter Try.func6, Try.ntmps6
    go_wp2_with fail
    refine (greatL_any true n Aw nw cw Al nl cl w HG.out).mono ?_; rintro e w1 ⟨rfl, rfl⟩
    have Hbw := Lib.hid (Below.refl w.heap.size w)
    go_wp2_with fail
    refine (worksL_any _).mono ?_
    rintro e w8 ⟨rfl, hb8⟩
    have Hb8 := Lib.hid (Hbw.out.trans (hb8.mono Hbw.out.size))
    clear hb8
    go_wp2_with fail
    go_ret
    exact ⟨by first | rfl | decide | simp, Hb8.out⟩
  | false =>
    have hg : n ≤ 200 ∧ nl ≤ 400 := by unfold greatL at hG; simp at hG; omega
    have HG := Lib.hid hG
    clear hG
    obtain ⟨hn200, hl400⟩ := hg
    by_cases hok : OkS n low xs
    · obtain ⟨N, hN⟩ : ∃ N : Nat, n = (N : Int) := ⟨n.toNat, (Int.toNat_of_nonneg hok.n0).symm⟩
      subst hN
      have Hok := Lib.hid hok
      clear hok
      go_enter Try.func6, Try.ntmps6
      go_wp2_with fail
      refine (greatL_any false N Aw nw cw Al nl cl w HG.out).mono ?_; rintro e w1 ⟨rfl, rfl⟩
      go_wp2_with fail
      refine (refMay4_any true N Aw nw cw low Al nl cl xs w Hlw.out Hx.out ⟨fun _ => Hok.out, fun _ => rfl⟩).mono ?_
      rintro e w1 ⟨rfl, hb1⟩
      have Hlw1 := Lib.hid ((Hlw.out.below hb1).more hb1.size)
      have Hx1 := Lib.hid ((Hx.out.below hb1).more hb1.size)
      have Hb1 := Lib.hid hb1
      clear hb1
      go_wp2_with fail
      refine (solve_any N Aw nw cw low Al nl cl xs w1 Hlw1.out Hx1.out).mono ?_
      rintro e w2 ⟨A, m, c, A2, m2, c2, a, core, er, rfl, _, hrc, hS, hb2⟩
      have Hrc := Lib.hid hrc
      have HS := Lib.hid hS
      have Hlw2 := Lib.hid ((Hlw1.out.below hb2).more hb2.size)
      have Hx2 := Lib.hid ((Hx1.out.below hb2).more hb2.size)
      have Hbw := Lib.hid (Hb1.out.trans (hb2.mono Hb1.out.size))
      clear hrc hS hb2
      by_cases he : er = 40
      · subst he
        have hcore := core_ok HS.out Hok.out rfl
        have Hcore := Lib.hid hcore
        have hml := Hrc.out.len
        have Hml := Lib.hid hml
        have m63 : m2 ≤ 9223372036854775807 := Nat.le_trans Hrc.out.2.1 Hrc.out.2.2
        -- the core is no longer than the list
        have hm400 : m2 ≤ 400 := by
          have q1 : core.Nodup := List.pairwise_iff_getElem.2 fun i j hi hj hij => by
            have aux : ∀ d (h : i + d + 1 < core.length), core[i] < core[i + d + 1] := fun d => by
              induction d with
              | zero => intro h; exact hcore.up i h
              | succ d ih =>
                intro h
                have q2 := ih (by omega)
                have q3 := hcore.up (i + d + 1) (by omega)
                have : core[i + (d + 1) + 1] = core[i + d + 1 + 1] := rfl
                omega
            have q4 := aux (j - i - 1) (by omega)
            have q5 : i + (j - i - 1) + 1 = j := by omega
            simp only [q5] at q4
            omega
          have q2 := nodup_len core ((List.range xs.length).map fun u : Nat => (u : Int)) q1 (fun z hz => by
            obtain ⟨h0, h1⟩ := hcore.rng z hz
            exact List.mem_map.2 ⟨z.toNat, List.mem_range.2 (by omega), by omega⟩)
          rw [List.length_map, List.length_range] at q2
          omega
        clear hcore hml HS
        go_wp2_with fail
        go_loopg [10, 43] m2 (fun gh s i wr => ∃ (k : Nat) (As : Option Addr) (cs : Nat), k ≤ m2 ∧ gh = m2 - k ∧ i = .int .i64 (k : Nat) ∧ s = .slice As k cs ∧ wr.ownsRow w2.heap.size 31 4 (.slice As k cs) k (cellsQ ((picks xs core).take k)) ∧ Below w2.heap.size w2 wr)
        case atStart => exact ⟨0, none, 0, Nat.zero_le _, rfl, rfl, rfl, World.ownsRow_nil _ _ _ _, Below.refl _ _⟩
        case round =>
          obtain ⟨k, As, cs, hk, rfl, rfl, rfl, hown, hbel⟩ := hrel
          have Hown := Lib.hid hown
          have Hbel := Lib.hid hbel
          by_cases hkm : k < m2
          · have k1 : k < core.length := by have := Hml.out; omega
            obtain ⟨b, o, q, hb, hc⟩ := (Hrc.out.below hbel).at_ (by omega)
            subst q
            have e0 := hc k k1
            obtain ⟨z, hz⟩ : ∃ z, core[k] = z := ⟨_, rfl⟩
            rw [hz] at e0
            have hzr := Hcore.out.rng _ (List.getElem_mem k1)
            rw [hz] at hzr
            obtain ⟨zn, hzn⟩ : ∃ q : Nat, z = (q : Int) := ⟨z.toNat, (Int.toNat_of_nonneg hzr.1).symm⟩
            subst hzn
            have hznl : zn < xs.length := by omega
            obtain ⟨b2, o2, q, hb2, hc2⟩ := (Hx2.out.below hbel).at_ (by omega)
            subst q
            obtain ⟨x0, x1, x2, x3⟩ := hc2 zn hznl
            have i1 : (0 : Int) ≤ (k : Int) := by omega
            have i2 : (k : Int) < m2 := by omega
            have j1 : (0 : Int) ≤ (zn : Int) := by omega
            have j2 : (zn : Int) < nl := by omega
            have g1 : decide ((zn : Int) < 0) = false := by simp
            have g2 : decide ((zn : Int) ≥ (nl : Int)) = false := by simp; omega
            have htk : (picks xs core).take (k + 1) = (picks xs core).take k ++ [xs[zn]] := by
              rw [List.take_succ_eq_append_getElem (by rw [picks_len]; exact k1)]
              congr 2
              simp [picks, hz, List.getD, hznl]
            have Htk := Lib.hid htk
            have hxz : xs[zn] = xs[zn] := rfl
            generalize xs[zn] = x at x0 x1 x2 x3 Htk
            cases k with
            | zero =>
              simp only [Nat.add_zero] at e0
              clear hc hc2 hown hbel hxz hz htk hzr
              have hb9 := Hbel.out.alloc Hbel.out.size (Obj.cells #[.int .i64 x.lv, .int .u8 x.lc, .int .u8 x.c, .int .i64 x.r] 31)
              go_wp2_with (at_builtin; refine wpList_append_rd _ rfl (.tmp 69) (.tmp 74) 35 rfl w2.heap.size 31 i0 _ 4 32 Try.underlying35 hi0 hz0 hz1 hz2 rfl (by omega) (.slice As (0) cs) (0) (cellsQ ((picks xs core).take (0))) rfl (Hown.out.alloc _) (wr.heap.size + 1) (some ⟨wr.heap.size, 0, none⟩) 1 1 (cellsQ [x]) rfl (rd_new4q wr x _) (cellsQ_one [x]) (by unfold maxLen; omega) (by omega) hb9.size ?_; intro v7 w7 ho7 hg7 hat7; obtain ⟨A7, c7, rfl⟩ := ownsRow_form ho7)
              have hb7 := hb9.grown hg7 hb9.size (fun b' hb' => (ownsRow_lt (Hown.out.alloc (Obj.cells #[.int .i64 x.lv, .int .u8 x.lc, .int .u8 x.c, .int .i64 x.r] 31)) hb').1)
              rw [← cellsQ_append] at ho7
              go_roundg (m2 - ((0) + 1))
              case measure => omega
              case rel => exact ⟨(0) + 1, A7, c7, by omega, rfl, by simp, rfl, by rw [Htk.out]; exact ho7, hb7⟩
            | succ k' =>
              have k0 : k' < core.length := by omega
              have e5 := hc k' k0
              obtain ⟨y, hy⟩ : ∃ y, core[k'] = y := ⟨_, rfl⟩
              have hup := Hcore.out.up k' k1
              rw [hy, hz] at hup
              rw [hy] at e5
              have g3 : decide ((zn : Int) ≤ y) = false := by simp; omega
              have g4 : decide ((k' : Int) + 1 > 0) = true := by first | (simp; done) | (simp; omega)
              have i4 : (0 : Int) ≤ (k' : Int) + 1 := by omega
              have i5 : (k' : Int) + 1 < m2 := by omega
              have i6 : (0 : Int) ≤ (k' : Int) := by omega
              have i7 : (k' : Int) < m2 := by omega
              have e0' : wr.cell? ⟨b, o + (k' + 1), none⟩ = some (.int .i64 (zn : Int)) := e0
              clear hc hc2 hown hbel hxz hz htk hzr hy hup e0
              have hb9 := Hbel.out.alloc Hbel.out.size (Obj.cells #[.int .i64 x.lv, .int .u8 x.lc, .int .u8 x.c, .int .i64 x.r] 31)
              go_wp2_with (at_builtin; refine wpList_append_rd _ rfl (.tmp 69) (.tmp 74) 35 rfl w2.heap.size 31 i0 _ 4 32 Try.underlying35 hi0 hz0 hz1 hz2 rfl (by omega) (.slice As (k' + 1) cs) (k' + 1) (cellsQ ((picks xs core).take (k' + 1))) rfl (Hown.out.alloc _) (wr.heap.size + 1) (some ⟨wr.heap.size, 0, none⟩) 1 1 (cellsQ [x]) rfl (rd_new4q wr x _) (cellsQ_one [x]) (by unfold maxLen; omega) (by omega) hb9.size ?_; intro v7 w7 ho7 hg7 hat7; obtain ⟨A7, c7, rfl⟩ := ownsRow_form ho7)
              have hb7 := hb9.grown hg7 hb9.size (fun b' hb' => (ownsRow_lt (Hown.out.alloc (Obj.cells #[.int .i64 x.lv, .int .u8 x.lc, .int .u8 x.c, .int .i64 x.r] 31)) hb').1)
              rw [← cellsQ_append] at ho7
              go_roundg (m2 - ((k' + 1) + 1))
              case measure => omega
              case rel => exact ⟨(k' + 1) + 1, A7, c7, by omega, rfl, by simp, rfl, by rw [Htk.out]; exact ho7, hb7⟩
          · have hkm' : k = m2 := by omega
            subst hkm'
            clear hown hbel
            have hfull : (picks xs core).take k = picks xs core := List.take_of_length_le (by rw [picks_len]; have := Hml.out; omega)
            have Hown9 : Hid (wr.ownsRow w2.heap.size 31 4 (.slice As k cs) k (cellsQ (picks xs core))) := Lib.hid (by rw [← hfull]; exact Hown.out)
            clear hfull Hown
            have HV := Lib.hid (IneqsV.of_own4 Hown9.out)
            have Hlw3 := Lib.hid ((Hlw2.out.below Hbel.out).more Hbel.out.size)
            have Hbw3 := Lib.hid (Hbw.out.trans (Hbel.out.mono Hbw.out.size))
            have hoks : OkS (N : Int) low (picks xs core) := ⟨Hok.out.n0, Hok.out.len, fun x hx => by
              obtain ⟨z, hz, rfl⟩ := List.mem_map.1 hx
              have := Hcore.out.rng z hz
              have hl : z.toNat < xs.length := by omega
              rw [List.getD_eq_getElem?_getD, List.getElem?_eq_getElem hl]
              exact Hok.out.may _ (List.getElem_mem hl), Hok.out.rng⟩
            have Hoks := Lib.hid hoks
            clear hoks
            go_wp2_with fail
            refine (refSolve_any N (by omega) Aw nw cw low As k cs (picks xs core) wr Hlw3.out HV.out Hoks.out).mono ?_
            rintro e w4 ⟨A4, m4, c4, a4, ok4, rfl, _, hR4, hb4⟩
            cases ok4 with
            | true => exact absurd (hR4.1 rfl).sol (Hcore.out.none a4)
            | false =>
              have Hown4 := Lib.hid (ownsRow_beyond Hown9.out hb4)
              have Hlw4 := Lib.hid ((Hlw3.out.below hb4).more hb4.size)
              have Hb4 := Lib.hid (Hbw3.out.trans (hb4.mono Hbw3.out.size))
              have Hz4 := Lib.hid (Nat.le_trans Hbel.out.size hb4.size)
              clear hR4 hb4
              have hpl : (picks xs core).length = k := by rw [picks_len]; exact Hml.out
              go_wp2_with fail
              go_loopg [87] k (fun gh i wr9 => ∃ j, j ≤ k ∧ gh = k - j ∧ i = .int .i64 (j : Nat) ∧ Below w4.heap.size w4 wr9)
              case atStart => exact ⟨0, Nat.zero_le _, rfl, rfl, Below.refl _ _⟩
              case round =>
                obtain ⟨j, hj, rfl, rfl, hb9⟩ := hrel
                have Hb9 := Lib.hid hb9
                by_cases hjk : j < k
                · have hv9 := IneqsV.of_own4 (ownsRow_beyond Hown4.out hb9)
                  have Hv9 := Lib.hid hv9
                  clear hv9 hb9
                  go_wp2_with fail
                  refine (cloneQ_any As k cs (picks xs core) wr Hv9.out (by omega)).mono ?_
                  rintro e w10 ⟨A10, c10, rfl, ho10, hb10⟩
                  obtain ⟨g10, hA10⟩ : ∃ g, A10 = some ⟨g, 0, none⟩ := by
                    rcases ho10.2 with ⟨_, h0⟩ | ⟨g', _, _, e, _⟩
                    · omega
                    · cases e; exact ⟨g', rfl⟩
                  subst hA10
                  have Ho10 := Lib.hid ho10
                  have Hb10 := Lib.hid hb10
                  clear ho10 hb10
                  have i1 : (0 : Int) ≤ (j : Int) := by omega
                  go_wp2_with fail
                  refine (deleteQ_any wr.heap.size g10 k c10 j (picks xs core) w10 Ho10.out hjk (by omega)).mono ?_
                  rintro e w11 ⟨c11, rfl, ho11, hg11⟩
                  have hb11 : Below wr.heap.size wr w11 := Hb10.out.grown hg11 Hb10.out.size (fun k' hk' => by
                    injection hk' with hk'
                    subst hk'
                    exact (ownsRow_lt Ho10.out rfl).1)
                  have Hv11 := Lib.hid (IneqsV.of_own4 ho11)
                  have hb411 := Hb9.out.trans (hb11.mono Hb9.out.size)
                  have Hb411 := Lib.hid hb411
                  have Hlw11 := Lib.hid ((Hlw4.out.below hb411).more hb411.size)
                  have hoks11 : OkS (N : Int) low ((picks xs core).eraseIdx j) := ⟨Hok.out.n0, Hok.out.len, fun x hx => Hoks.out.may x (List.mem_of_mem_eraseIdx hx), Hok.out.rng⟩
                  have Hoks11 := Lib.hid hoks11
                  clear ho11 hg11 hb11 hb411 hoks11
                  go_wp2_with fail
                  refine (refSolve_any N (by omega) Aw nw cw low (some ⟨g10, 0, none⟩) (k - 1) c11 ((picks xs core).eraseIdx j) w11 Hlw11.out Hv11.out Hoks11.out).mono ?_
                  rintro e w12 ⟨A12, m12, c12, a12, ok12, rfl, _, hR12, hb12⟩
                  cases ok12 with
                  | false =>
                    obtain ⟨asg, hasg⟩ := Hcore.out.any j (by have := Hml.out; omega)
                    exact absurd hasg ((hR12.2 rfl).2 asg)
                  | true =>
                    have hb412 := Hb411.out.trans (hb12.mono Hb411.out.size)
                    have Hb412 := Lib.hid hb412
                    clear hR12 hb12 hb412
                    go_wp2_with fail
                    go_roundg (k - (j + 1))
                    case measure => omega
                    case rel => exact ⟨j + 1, by omega, rfl, by simp, Hb412.out⟩
                · have hbw9 := Hb4.out.trans (hb9.mono Hb4.out.size)
                  clear Hbw hb9
                  have Hbw := Lib.hid hbw9
                  clear hbw9
                  go_wp2_with fail
                  refine (worksL_any _).mono ?_
                  rintro e w8 ⟨rfl, hb8⟩
                  have Hb8 := Lib.hid (Hbw.out.trans (hb8.mono Hbw.out.size))
                  clear hb8
                  go_wp2_with fail
                  go_ret
                  exact ⟨by first | rfl | decide | simp, Hb8.out⟩
      · have f1 : (er != 40) = true := by simp [he]
        clear he
        go_wp2_with fail
        refine (worksL_any _).mono ?_
        rintro e w8 ⟨rfl, hb8⟩
        have Hb8 := Lib.hid (Hbw.out.trans (hb8.mono Hbw.out.size))
        clear hb8
        go_wp2_with fail
        go_ret
        exact ⟨by first | rfl | decide | simp, Hb8.out⟩
    · have Hok := Lib.hid hok
      clear hok
      go_enter Try.func6, Try.ntmps6
      go_wp2_with fail
      refine (greatL_any false n Aw nw cw Al nl cl w HG.out).mono ?_; rintro e w1 ⟨rfl, rfl⟩
      go_wp2_with fail
      refine (refMay4_any false n Aw nw cw low Al nl cl xs w Hlw.out Hx.out ⟨fun h => Bool.noConfusion h, fun h => absurd h Hok.out⟩).mono ?_
      rintro e w1 ⟨rfl, hb1⟩
      have Hbw := Lib.hid hb1
      clear hb1
      go_wp2_with fail
      refine (worksL_any _).mono ?_
      rintro e w8 ⟨rfl, hb8⟩
      have Hb8 := Lib.hid (Hbw.out.trans (hb8.mono Hbw.out.size))
      clear hb8
      go_wp2_with fail
      go_ret
      exact ⟨by first | rfl | decide | simp, Hb8.out⟩

theorem walk_leastCores (n : Int) (hn : -9223372036854775808 ≤ n ∧ n ≤ 9223372036854775807) (v1 : Value) (w : World) (h1 : MultsIn w v1) (v2 : Value) (h2 : IneqsIn w v2) :
    Calls Try.prog 6 #[.int .i64 n, v1, v2] w fun e w' => e = .returned (.bool true) ∧ Below w.heap.size w w' := by
  obtain ⟨A, nw, c, low, rfl, ha, _⟩ := h1
  obtain ⟨A', nl, c', xs, rfl, hx, _⟩ := h2
  exact walkA_leastCores n A nw c low A' nl c' xs w ha hx

/-! ### the row's step -/
namespace leastCores
set_option maxRecDepth 100000 in
theorem lifted (os : Os) (started : os.Started) (H : Type) (enc : TypeId × Value → H) :
    ReturnsInHanded {} Try.checked os 6 .any (Rows.leastCoresSpec.pre6 enc Try.prog Try.f6 Rows.leastCoresRow.domain false) (Rows.leastCoresSpec.post enc Try.prog Try.f6 false true false false) := by
  refine returnsInHanded_of_change_sized (C := Try.checked) own started (by kernel_rfl) Try.func6
    (ChangeSpec.witness6 (enc := enc) (C := Try.checked) false ⟨#[], #[.int .i64 0, .slice none 0 0, .slice none 0 0], []⟩ 8 (by kernel_rfl) (by kernel_rfl) (by kernel_rfl) (by kernel_rfl)) ?_
  intro W base args ds gs before hval0 hW hcnd hsz0 _
  have hsz : (DataW.weightsEach Try.prog (Try.f6.params.toList ++ Rows.leastCoresSpec.plain.varTypes Try.prog) (ds ++ gs)).all (· ≤ reachBytes) = true := hsz0
  have hval : ∀ (j : Nat) t v, Try.f6.params[j]? = some t → args[j]? = some v → Value.okWide Try.prog W .any base t v := hval0
  have hW' := hW
  obtain ⟨p, q, hA0, hV, rfl, hfz, hnd⟩ := hW
  have hA : DataW.TrodAll enc Try.prog W 0 (fun _ => true) true Try.f6.params.toList args.toList ds p := hA0
  rw [Try.params6] at hA hval hsz
  obtain ⟨v0, vs0, d0, ds0, p0, q0, hargs, rfl, rfl, h0, r_0⟩ := trodAll_cons hA
  obtain ⟨v1, vs1, d1, ds1, p1, q1, rfl, rfl, rfl, h1, r_1⟩ := trodAll_cons r_0
  obtain ⟨v2, vs2, d2, ds2, p2, q2, rfl, rfl, rfl, h2, r_2⟩ := trodAll_cons r_1
  obtain ⟨rfl, rfl, rfl⟩ := trodAll_nil r_2
  obtain rfl : args = #[v0, v1, v2] := by cases args; simp_all
  obtain ⟨rfl, rfl⟩ := trodVars_none hV
  obtain ⟨a0, rfl, _, _, w0⟩ := open_int Try.underlying3 (hval 0 3 v0 rfl rfl) h0
  have b0 := bounds_i64 w0
  have w1 := rd_mults (hval 1 22 v1 rfl rfl) h1
  have w2 := rd_ineqs (hval 2 35 v2 rfl rfl) h2
  refine (walk_leastCores (w := W) a0 b0 v1 w1 v2 w2).mono fun e W' ⟨he, bel⟩ => ?_
  subst he
  exact ⟨_, rfl, law_post laidOut (by kernel_rfl) rfl rfl Try.underlying4 hW' rfl rfl rfl bel⟩
theorem over : Rows.leastCoresRow.holds Try.pinned (OpenSpec.ofChange Rows.leastCoresSpec) :=
  OpenClaim.holds_of_wide 6 Try.f6 rfl rfl rfl rfl rfl rfl rfl ⟨rfl, rfl, rfl, rfl, rfl⟩ rfl rfl rfl rfl rfl (by kernel_rfl) Try.func6 (by kernel_rfl)
    (of_decide_eq_true (by kernel_rfl)) (by unfold Func.isWrapper; first | (rw [if_pos (by decide +kernel)]; kernel_rfl) | (rw [if_neg (by decide +kernel)]; exact ⟨rfl, rfl⟩))
    (fun os started H enc _ => lifted os started H enc)
/-- the statement -/
theorem proved : Rows.LeastCoresSaid := over
#print axioms proved
end leastCores
end Go.Proofs.Ythabkpkgocafoaa
