/- TyTexts holds: types that may be have the same text just if they are the same. Conditions: the arguments are of bulk at most 1048576; the variables that the row lists are laid as the program's text lays them. -/
import Derived.Test.YtidamlkekgnhgaaDoorLawE
import Derived.Test.YtidamlkekgnhgaaDoorRowH
import Derived.Deep.DeepHandedRow
namespace Go.Proofs.YtidamlkekgnhgaaDoor
set_option linter.unusedVariables false
set_option linter.unusedSimpArgs false
open Go.ChangeShapes Go.WideShapes Go.ChangeAt Go.RowKit

set_option maxRecDepth 100000 in
set_option maxHeartbeats 4000000 in
theorem walk_tyTexts {H : Type} {d0 d1 : DataW H} {w : World} (ht : Tab w) (hk : Rows.uptoBulkAll [d0, d1] ≤ 1048576) (v0 : Value) (h0 : TyB w v0 d0) (v1 : Value) (h1 : TyB w v1 d1) :
    Calls Tryd.prog 5 #[v0, v1] w fun e w' => e = .returned (.bool true) ∧ Below w.heap.size w w' := by
  obtain ⟨a, A, m, cp, rfl, ha, hna, _⟩ := h0
  obtain ⟨b, A', m', cp', rfl, hb, hnb, _⟩ := h1
  simp only [Rows.uptoBulkAll] at hk
  have hna' : nodes a ≤ 1048576 := by omega
  have hnb' : nodes b ≤ 1048576 := by omega
  clear hk hna hnb
  obtain ⟨W, h2⟩ := two_new a b A m cp A' m' cp' w ha hb
  obtain ⟨r, hr⟩ : ∃ r, greatB [a, b] = r := ⟨_, rfl⟩
  obtain ⟨xa, hxa⟩ : ∃ x, mayTE a = x := ⟨_, rfl⟩
  obtain ⟨xb, hxb⟩ : ∃ x, mayTE b = x := ⟨_, rfl⟩
  have Hg := Lib.hid (great_at hr _ _ _ W h2.row)
  have H2 := Lib.hid h2
  have Heq := Lib.hid h2.eq
  have Ht := Lib.hid ht
  have hsz : W.heap.size = w.heap.size + 1 + 1 + 1 := h2.size
  have Hxa := Lib.hid hxa
  have Hxb := Lib.hid hxb
  clear h2 ht ha hb hr hxa hxb
  go_enter Tryd.func5, Tryd.ntmps5
  go_wp2_with fail
  rw [Heq.out]
  refine Hg.out.mono ?_; rintro e w1 ⟨rfl, hb1⟩
  have hw1 := H2.out.bel.trans (hb1.mono H2.out.bel.size)
  cases r with
  | true =>
    go_wp2_with fail
    refine (worksTy_any w1 (Ht.out.below hw1)).mono ?_; rintro e w9 ⟨rfl, hb9⟩
    go_wp2_with fail
    go_ret
    exact ⟨rfl, hw1.trans (hb9.mono hw1.size)⟩
  | false =>
    have ga := Lib.hid (H2.out.ba.below hb1 H2.out.ba.lt)
    have gb := Lib.hid (H2.out.bb.below hb1 H2.out.bb.lt)
    have hta := Lib.hid (H2.out.ta.fresh hb1)
    have htb := Lib.hid (H2.out.tb.fresh hb1)
    have a0 := ga.out.cell 0
    have a1 := ga.out.cell 1
    have a2 := ga.out.cell 2
    have a3 := ga.out.cell 3
    have a4 := ga.out.cell 4
    clear hb1 Hg
    go_wp2_with fail
    refine (tyMay_at Hxa.out A m cp w1 hta.out).mono ?_; rintro e w2 ⟨rfl, hb2⟩
    have hw2 := hw1.trans (hb2.mono hw1.size)
    clear a0 a1 a2 a3 a4
    by_cases h0 : xa = 0
    · have ga2 := Lib.hid (ga.out.below hb2 ga.out.lt)
      have gb2 := Lib.hid (gb.out.below hb2 gb.out.lt)
      have hta2 := Lib.hid (hta.out.fresh hb2)
      have htb2 := Lib.hid (htb.out.fresh hb2)
      have b0 := gb2.out.cell 0
      have b1 := gb2.out.cell 1
      have b2 := gb2.out.cell 2
      have b3 := gb2.out.cell 3
      have b4 := gb2.out.cell 4
      have d0 : (xa == 0) = true := by simpa using h0
      clear ga gb hta htb hb2
      go_wp2_with fail
      refine (tyMay_at Hxb.out A' m' cp' w2 htb2.out).mono ?_; rintro e w3 ⟨rfl, hb3⟩
      have hw3 := hw2.trans (hb3.mono hw2.size)
      clear b0 b1 b2 b3 b4
      by_cases h1 : xb = 0
      · have d1 : (xb == 0) = true := by simpa using h1
        have hma := mayTE_facts (Hxa.out.trans h0)
        have hmb := mayTE_facts (Hxb.out.trans h1)
        have hsa := may_small (Hxa.out.trans h0) hna'
        have hsb := may_small (Hxb.out.trans h1) hnb'
        have hla := text_len ws2_size hma.1
        have hlb := text_len ws2_size hmb.1
        obtain ⟨S, hS⟩ : ∃ S, (⟨(txB ws2 a).toArray⟩ : ByteArray) = S := ⟨_, rfl⟩
        obtain ⟨S', hS'⟩ : ∃ S, (⟨(txB ws2 b).toArray⟩ : ByteArray) = S := ⟨_, rfl⟩
        obtain ⟨q, hq⟩ : ∃ q, sameT a b = q := ⟨_, rfl⟩
        have hd : (S.toList == S'.toList) = q := by
          rw [str_eq, ← hq]
          by_cases hab : a = b
          · subst hab
            rw [(sameT_iff a a).2 rfl, ← hS, ← hS']
            simp
          · have hf : sameT a b = false := by
              rw [Bool.eq_false_iff]
              exact fun h => hab ((sameT_iff a b).1 h)
            rw [hf, decide_eq_false]
            intro e
            rw [← hS, ← hS'] at e
            injection e with e
            have e : (txB ws2 a).toArray = (txB ws2 b).toArray := e
            exact hab (text_inj hma.1 hmb.1 (by simpa using congrArg Array.toList e))
        have ga3 := Lib.hid (ga2.out.below hb3 ga2.out.lt)
        have gb3 := Lib.hid (gb2.out.below hb3 gb2.out.lt)
        have hta3 := Lib.hid (hta2.out.fresh hb3)
        have htb3 := Lib.hid (htb2.out.fresh hb3)
        have HS := Lib.hid hS
        have HS' := Lib.hid hS'
        have Hq := Lib.hid hq
        have Hma := Lib.hid hma.1
        have Hmb := Lib.hid hmb.1
        have Hla : Hid ((txB ws2 a).length ≤ 140737488355328) := Lib.hid (by omega)
        have Hlb : Hid ((txB ws2 b).length ≤ 140737488355328) := Lib.hid (by omega)
        have Hw3 := Lib.hid hw3
        have Ht3 := Lib.hid (Ht.out.below hw3)
        have la := ga3.out.lt
        have lb := gb3.out.lt
        have a0 := ga3.out.cell 0
        have a1 := ga3.out.cell 1
        have a2 := ga3.out.cell 2
        have a3 := ga3.out.cell 3
        have a4 := ga3.out.cell 4
        have b0 := gb3.out.cell 0
        have b1 := gb3.out.cell 1
        have b2 := gb3.out.cell 2
        have b3 := gb3.out.cell 3
        have b4 := gb3.out.cell 4
        clear hma hmb hsa hsb hla hlb hS hS' hq ga2 gb2 hta2 htb2 hb3 hw3 hw2 hw1 ga3 gb3 hna' hnb'
        go_wp2_with fail
        have hbS : Below w3.heap.size w3 w3.drew := Below.drew (Below.refl _ _)
        have st0 := trivial
        go_region_held3 (fun w' => w'.cell? ⟨w.heap.size, 0, none⟩ = some (.int .u8 a.k) ∧ w'.cell? ⟨w.heap.size, 1, none⟩ = some (.int .i64 a.n) ∧ w'.cell? ⟨w.heap.size, 2, none⟩ = some (.int .i64 a.v) ∧ w'.cell? ⟨w.heap.size, 3, none⟩ = some (.int .u8 a.c) ∧ w'.cell? ⟨w.heap.size, 4, none⟩ = some (.slice A m cp) ∧
            w'.cell? ⟨w.heap.size + 1, 0, none⟩ = some (.int .u8 b.k) ∧ w'.cell? ⟨w.heap.size + 1, 1, none⟩ = some (.int .i64 b.n) ∧ w'.cell? ⟨w.heap.size + 1, 2, none⟩ = some (.int .i64 b.v) ∧ w'.cell? ⟨w.heap.size + 1, 3, none⟩ = some (.int .u8 b.c) ∧ w'.cell? ⟨w.heap.size + 1, 4, none⟩ = some (.slice A' m' cp'))
          (first | go_keep | exact ⟨(hbS.cell (p := ⟨w.heap.size, 0, none⟩) la).trans a0, (hbS.cell (p := ⟨w.heap.size, 1, none⟩) la).trans a1, (hbS.cell (p := ⟨w.heap.size, 2, none⟩) la).trans a2, (hbS.cell (p := ⟨w.heap.size, 3, none⟩) la).trans a3, (hbS.cell (p := ⟨w.heap.size, 4, none⟩) la).trans a4, (hbS.cell (p := ⟨w.heap.size + 1, 0, none⟩) lb).trans b0, (hbS.cell (p := ⟨w.heap.size + 1, 1, none⟩) lb).trans b1, (hbS.cell (p := ⟨w.heap.size + 1, 2, none⟩) lb).trans b2, (hbS.cell (p := ⟨w.heap.size + 1, 3, none⟩) lb).trans b3, (hbS.cell (p := ⟨w.heap.size + 1, 4, none⟩) lb).trans b4⟩)
          ((first
            | (go_at_call 14; clear st0; have st1 := trivial; refine (names_any _).mono ?_; rintro e wx ⟨A9, n9, c9, rfl, hn9, hbx⟩; replace hbS := hbS.trans (hbx.mono hbS.size); clear hbx)
            | (go_at_call 11; clear st1; have st2 := trivial; refine (tyText_s HS.out Hma.out A m cp A9 n9 c9 _ (hta3.out.fresh hbS) hn9 (Ht3.out.below hbS) Hla.out).mono ?_; rintro e wx ⟨rfl, hbx⟩; replace hbS := hbS.trans (hbx.mono hbS.size); clear hbx hn9)
            | (go_at_call 14; clear st2; have st3 := trivial; refine (names_any _).mono ?_; rintro e wx ⟨A9, n9, c9, rfl, hn9, hbx⟩; replace hbS := hbS.trans (hbx.mono hbS.size); clear hbx)
            | (go_at_call 11; clear st3; have st4 := trivial; refine (tyText_s HS'.out Hmb.out A' m' cp' A9 n9 c9 _ (htb3.out.fresh hbS) hn9 (Ht3.out.below hbS) Hlb.out).mono ?_; rintro e wx ⟨rfl, hbx⟩; replace hbS := hbS.trans (hbx.mono hbS.size); clear hbx hn9)
            | (go_at_call 21; clear st4; have st5 := trivial; refine (same_at Hq.out A m cp A' m' cp' _ (hta3.out.fresh hbS) (htb3.out.fresh hbS)).mono ?_; rintro e wx ⟨rfl, hbx⟩; replace hbS := hbS.trans (hbx.mono hbS.size); clear hbx)
            | (go_at_call 10; clear st5; have st6 := trivial; refine (worksTy_any _ (Ht3.out.below hbS)).mono ?_; rintro e wx ⟨rfl, hbx⟩; replace hbS := hbS.trans (hbx.mono hbS.size); clear hbx)))
        all_goals
          go_wp2_with fail
          go_ret
          exact ⟨rfl, Hw3.out.trans (hbS.mono Hw3.out.size)⟩
      · have d1 : (xb == 0) = false := by simpa using h1
        clear hb3
        go_wp2_with fail
        refine (worksTy_any w3 (Ht.out.below hw3)).mono ?_; rintro e w9 ⟨rfl, hb9⟩
        go_wp2_with fail
        go_ret
        exact ⟨rfl, hw3.trans (hb9.mono hw3.size)⟩
    · have d0 : (xa == 0) = false := by simpa using h0
      clear hb2
      go_wp2_with fail
      refine (worksTy_any w2 (Ht.out.below hw2)).mono ?_; rintro e w9 ⟨rfl, hb9⟩
      go_wp2_with fail
      go_ret
      exact ⟨rfl, hw2.trans (hb9.mono hw2.size)⟩

/-! ### the row's step -/
namespace tyTexts
set_option maxRecDepth 100000 in
theorem reads (os : Os) {H : Type} (enc : TypeId × Value → H) : ∃ places, DataW.whole enc Tryd.prog ((World.doorLaid Tryd.prog 400 os).forCall (fun _ _ => 0) ⟨#[], #[.agg #[.int .u8 0, .int .i64 0, .int .i64 0, .int .u8 0, .slice none 0 0], .agg #[.int .u8 0, .int .i64 0, .int .i64 0, .int .u8 0, .slice none 0 0]], []⟩).memory Tryd.f5.params.toList Rows.tyTextsSpec.vars false (#[.agg #[.int .u8 0, .int .i64 0, .int .i64 0, .int .u8 0, .slice none 0 0], .agg #[.int .u8 0, .int .i64 0, .int .i64 0, .int .u8 0, .slice none 0 0]] : Array Value).toList 8 = some ([.agg [.lit (.int .u8 0), .lit (.int .i64 0), .agg [.lit (.int .i64 0), .lit (.int .u8 0)], .nil], .agg [.lit (.int .u8 0), .lit (.int .i64 0), .agg [.lit (.int .i64 0), .lit (.int .u8 0)], .nil]], [], places) :=
  ⟨[], by kernel_rfl⟩
set_option maxRecDepth 100000 in
theorem lifted (os : Os) (started : os.Started) (H : Type) (enc : TypeId × Value → H) (F : Stop.Interp) :
    ReturnsInHanded {} Tryd.checked os 5 .any ((Rows.OpenSpec.upto Rows.tyTextsSpec).preRow enc Tryd.prog Tryd.f5 Rows.tyTextsUptoRow.domain false Rows.tyTextsUptoRow.laid) (((Rows.OpenSpec.upto Rows.tyTextsSpec).at F).post enc Tryd.prog Tryd.f5 false true false false) := by
  obtain ⟨places, hx⟩ := reads os enc
  refine returnsInHanded_of_row (C := Tryd.checked) (s := Rows.OpenSpec.upto Rows.tyTextsSpec) own started (by kernel_rfl) Tryd.func5
    (witness_row_at (enc := enc) (C := Tryd.checked) false (World.doorLaid Tryd.prog 400 os) #[.agg #[.int .u8 0, .int .i64 0, .int .i64 0, .int .u8 0, .slice none 0 0], .agg #[.int .u8 0, .int .i64 0, .int .i64 0, .int .u8 0, .slice none 0 0]] rfl (by kernel_rfl) (by kernel_rfl) (by kernel_rfl)
      (OpenSpec.preRow_of_cond 8 hx (by kernel_rfl) (fun k hk => by cases hk; kernel_rfl) (by kernel_rfl) (door_met os _))) ?_
  intro W base args ds gs before hval0 hW _ hcond _ hL _ _
  have hk0 := of_decide_eq_true (hcond _ rfl)
  have hval : ∀ (j : Nat) t v, Tryd.f5.params[j]? = some t → args[j]? = some v → Value.okWide Tryd.prog W .any base t v := hval0
  have hW' := hW
  obtain ⟨p, q, hA0, hV, rfl, hfz, hnd⟩ := hW
  have hA : DataW.TrodAll enc Tryd.prog W 0 (fun _ => true) true Tryd.f5.params.toList args.toList ds p := hA0
  rw [Tryd.params5] at hA hval
  obtain ⟨v0, vs0, d0, ds0, p0, q0, hargs, rfl, rfl, h0, r_0⟩ := trodAll_cons hA
  obtain ⟨v1, vs1, d1, ds1, p1, q1, rfl, rfl, rfl, h1, r_1⟩ := trodAll_cons r_0
  obtain ⟨rfl, rfl, rfl⟩ := trodAll_nil r_1
  obtain rfl : args = #[v0, v1] := by cases args; simp_all
  obtain ⟨rfl, rfl⟩ := trodVars_none hV
  have hk : Rows.uptoBulkAll [d0, d1] ≤ 1048576 := hk0
  have w0 := rd_ty (hval 0 27 v0 rfl rfl) h0
  have w1 := rd_ty (hval 1 27 v1 rfl rfl) h1
  refine (walk_tyTexts (w := W) (tab_of_laid hL) hk v0 w0 v1 w1).mono fun e W' ⟨he, bel⟩ => ?_
  subst he
  exact ⟨_, rfl, law_post laidOut (by kernel_rfl) rfl rfl Tryd.underlying4 hW' rfl rfl rfl bel⟩
theorem over : Rows.TyTextsUptoSaid :=
  OpenClaim.holds_of_cond 5 Tryd.f5 rfl rfl rfl rfl rfl rfl rfl ⟨rfl, rfl, rfl, rfl, rfl⟩ rfl rfl rfl rfl rfl (by kernel_rfl) Tryd.func5 (by kernel_rfl)
    (of_decide_eq_true (by kernel_rfl)) (by unfold Func.isWrapper; first | (rw [if_pos (by decide +kernel)]; kernel_rfl) | (rw [if_neg (by decide +kernel)]; exact ⟨rfl, rfl⟩))
    (fun os started H enc _ F => by rw [OpenClaim.pre_eq_preRow]; exact lifted os started H enc F)
theorem card : Rows.TyTextsUptoCardSaid :=
  Claim7.holds_tied_plain_at .later [] _ _ _ _ over (fun _ h => by cases h) (by kernel_rfl) (fun _ h => by cases h) tyTextsUpto_row_tie rfl ⟨rfl, rfl⟩ (by kernel_rfl) rfl
    (fun f fn hf hfn => by
      obtain rfl : f = 5 := Option.some.inj ((show Tryd.prog.funcNamed "usufruct/usufructlaw06.TyTexts" = some 5 by kernel_rfl).symm.trans hf) |>.symm
      obtain rfl : fn = Tryd.f5 := (Option.some.inj (Tryd.func5.symm.trans hfn)).symm
      exact ⟨by kernel_rfl, fun j t ht => by
        rw [Tryd.params5] at ht
        have hm : t ∈ [27] := by simpa using Array.mem_of_getElem? ht
        have hall : ([27].all fun u => !Tryd.prog.wantsStandIn u) = true := by kernel_rfl
        exact (show Tryd.prog.wantsStandIn t = false by simpa using List.all_eq_true.1 hall t hm)⟩)
    (by kernel_rfl)
/-- the statement -/
theorem proved : Rows.TyTextsUptoCardSaid := card
#print axioms proved
end tyTexts
end Go.Proofs.YtidamlkekgnhgaaDoor
