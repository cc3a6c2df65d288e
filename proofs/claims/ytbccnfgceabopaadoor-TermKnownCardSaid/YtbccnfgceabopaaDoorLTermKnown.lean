/- TermKnown holds: the document's examples of joined, summed, scaled terms. Conditions: the variables that the row lists are laid as the program's text lays them. -/
import Derived.Test.YtbccnfgceabopaaDoorLawU
import Derived.Test.YtbccnfgceabopaaDoorTextI
import Derived.Test.YtbccnfgceabopaaDoorRowD
import Derived.BigQuiet
import Derived.Lib.QuietBelow
namespace Go.Proofs.YtbccnfgceabopaaDoor
set_option linter.unusedVariables false
set_option linter.unusedSimpArgs false
open Go.ChangeShapes Go.WideShapes Go.ChangeAt Go.RowKit

theorem some1 (w : World) (x c : Int) :
    Calls Tryd.prog 29 #[.int .u8 c, .slice (some ⟨w.heap.size, 0, none⟩) 1 1] (w.alloc (Obj.cells #[.int .i64 x] 3)) fun e w' => e = .returned (.agg #[.bool false, .int .u8 c, .slice (some ⟨w.heap.size, 0, none⟩) 1 1]) ∧ Below w.heap.size w w' ∧ RdI .i64 w' w'.heap.size (some ⟨w.heap.size, 0, none⟩) 1 1 [x] := by
  have hb := below_box (w := w) (Obj.cells #[.int .i64 x] 3)
  refine (some_any c (some ⟨w.heap.size, 0, none⟩) 1 1 _).mono fun e w' ⟨h1, h2⟩ => ⟨h1, hb.trans (h2.mono hb.size), ?_⟩
  have h3 : RdI .i64 (w.alloc (Obj.cells #[.int .i64 x] 3)) (w.heap.size + 1) (some ⟨w.heap.size, 0, none⟩) 1 1 [x] := ⟨Rd.new w [.int .i64 x] 3, Nat.le_refl _, by unfold maxLen; omega⟩
  exact h3.fresh h2 (by simp)
theorem text_lit (v : Value) (t : TermD) (s : ByteArray) (hs : textT t = s) (ht : mayB t = true) (w : World) (B : Nat) (hv : TermV w B v t) (hB : B ≤ w.heap.size) (htab : Tab w) (hbig : t.vars.length ≤ 1099511627776) :
    Calls Tryd.prog 33 #[v] w fun e w' => e = .returned (.string s) ∧ Below w.heap.size w w' := by
  rw [← hs]
  refine text_any_t v t w B hv hB htab hbig fun v hv => ?_
  rcases (may_iff t).1 ht with h | h
  · rw [h.2.2] at hv; simp at hv
  · have := h.2.2.2.2.2 v hv; omega
theorem k_a : joinT [⟨false, 1, [3]⟩, ⟨false, 2, [5]⟩] = ⟨false, 2, [3, 5]⟩ := by
  have h := sset_self (l := [3, 5]) (by simp [Rises])
  simp [joinT, someT, joinC0, joinCs, joinVs, cleanT, h]
  decide
theorem k_b : joinT [⟨true, 0, []⟩, ⟨false, 1, [3]⟩] = ⟨false, 2, [3]⟩ := by
  have h := sset_self (l := [3]) (by simp [Rises])
  simp [joinT, someT, joinC0, joinCs, joinVs, cleanT, h]
  decide
theorem k_c : sumT [⟨false, 1, [3]⟩, ⟨false, 1, []⟩] = ⟨false, 3, []⟩ := by simp [sumT, someT]
theorem k_d : scaleT 0 5 ⟨false, 1, [3]⟩ = ⟨false, 1, [3, 5]⟩ := by
  have h := sset_self (l := [3, 5]) (by simp [Rises])
  simp [scaleT, cleanT, h]
theorem t_num (n : Nat) (h : n < 10) : (numT (n : Int)).data.toList = [UInt8.ofNat (48 + n)] := by rw [numT_nat, Lib.decDigits_one h]
theorem t_name3 : (mname 3).data.toList = [109, 51] := by unfold mname; rw [ba_append, show (3 : Int) = ((3 : Nat) : Int) from rfl, t_num 3 (by omega)]; rfl
theorem t_name5 : (mname 5).data.toList = [109, 53] := by unfold mname; rw [ba_append, show (5 : Int) = ((5 : Nat) : Int) from rfl, t_num 5 (by omega)]; rfl
theorem t_a : textT ⟨false, 2, [3, 5]⟩ = ⟨#[63, 124, 109, 51, 124, 109, 53]⟩ := by
  refine ba_ext ?_
  unfold textT joinB partsT headT
  simp only [Bool.false_eq_true, if_false]
  rw [if_pos (by decide)]
  simp only [List.singleton_append, List.map_cons, List.map_nil]
  rw [join_tail, t_name3, t_name5]
  rfl
theorem t_b : textT ⟨false, 2, [3]⟩ = ⟨#[63, 124, 109, 51]⟩ := by
  refine ba_ext ?_
  unfold textT joinB partsT headT
  simp only [Bool.false_eq_true, if_false]
  rw [if_pos (by decide)]
  simp only [List.singleton_append, List.map_cons, List.map_nil]
  rw [join_tail, t_name3]
  rfl
theorem t_c : textT ⟨false, 3, []⟩ = ⟨#[42]⟩ := by
  refine ba_ext ?_
  unfold textT joinB partsT headT
  simp only [Bool.false_eq_true, if_false]
  rw [if_pos (by decide)]
  simp only [List.singleton_append, List.map_cons, List.map_nil]
  rw [join_tail]
  rfl
theorem t_d : textT ⟨false, 1, [3, 5]⟩ = ⟨#[109, 51, 124, 109, 53]⟩ := by
  refine ba_ext ?_
  unfold textT joinB partsT headT
  simp only [Bool.false_eq_true, if_false]
  rw [if_neg (by simp)]
  simp only [List.nil_append, List.map_cons, List.map_nil]
  rw [join_tail, t_name3, t_name5]
  rfl

set_option maxHeartbeats 4000000 in
set_option maxRecDepth 100000 in
theorem walk_termKnown (w : World) (htab : Tab w) :
    Calls Tryd.prog 9 #[] w fun e w' => e = .returned (.bool true) ∧ Below w.heap.size w w' := by
  have st := St.start w
  have Htab := Lib.hid htab
  clear htab
  go_enter Tryd.func9, Tryd.ntmps9
  go_wp2_with fail
  refine (some1 w 3 1).mono ?_; rintro e w1 ⟨rfl, hbx, h1⟩
  replace st := st.below hbx
  clear hbx
  go_wp2_with fail
  refine (some1 w1 5 2).mono ?_; rintro e w2 ⟨rfl, hbx, h2⟩
  replace st := st.below hbx
  replace h1 := h1.fresh hbx (Nat.le_refl _)
  clear hbx
  go_wp2_with fail
  refine (join2_any (x := ⟨false, 1, [3]⟩) (y := ⟨false, 2, [5]⟩) h1 h2 (by decide +kernel)).mono ?_
  rintro e w3 ⟨Aa, nAa, cAa, rfl, ha, hbx⟩
  rw [show allMay [⟨false, 1, [3]⟩, ⟨false, 2, [5]⟩] = true from by decide +kernel] at ha ⊢
  simp only [if_true] at ha ⊢
  rw [k_a] at ha ⊢
  replace st := st.below hbx
  clear hbx
  clear h1 h2
  have hzga : (w3.alloc (Obj.cells #[.bool false, .int .u8 2, .slice Aa nAa cAa] 25)).heap.size = w3.heap.size + 1 := by simp
  go_wp2_with fail
  replace st := st.new ⟨false, 2, [3, 5]⟩ ha
  dsimp only at st
  generalize w3.alloc (Obj.cells #[.bool false, .int .u8 2, .slice Aa nAa cAa] 25) = w4 at st hzga ⊢
  try rw [← hzga]
  generalize w3.heap.size = ga at st hzga ⊢
  clear ha hzga
  refine (some1 w4 3 1).mono ?_; rintro e w5 ⟨rfl, hbx, h1⟩
  replace st := st.below hbx
  clear hbx
  go_wp2_with fail
  refine (join2_any (x := ⟨true, 0, []⟩) (y := ⟨false, 1, [3]⟩) RdI.nil h1 (by decide +kernel)).mono ?_
  rintro e w6 ⟨Ab, nAb, cAb, rfl, hb, hbx⟩
  rw [show allMay [⟨true, 0, []⟩, ⟨false, 1, [3]⟩] = true from by decide +kernel] at hb ⊢
  simp only [if_true] at hb ⊢
  rw [k_b] at hb ⊢
  replace st := st.below hbx
  clear hbx
  clear h1
  have hzgb : (w6.alloc (Obj.cells #[.bool false, .int .u8 2, .slice Ab nAb cAb] 25)).heap.size = w6.heap.size + 1 := by simp
  go_wp2_with fail
  replace st := st.new ⟨false, 2, [3]⟩ hb
  dsimp only at st
  generalize w6.alloc (Obj.cells #[.bool false, .int .u8 2, .slice Ab nAb cAb] 25) = w7 at st hzgb ⊢
  try rw [← hzgb]
  generalize w6.heap.size = gb at st hzgb ⊢
  clear hb hzgb
  refine (some1 w7 3 1).mono ?_; rintro e w8 ⟨rfl, hbx, h1⟩
  replace st := st.below hbx
  clear hbx
  go_wp2_with fail
  refine (some_any 1 none 0 0 w8).mono ?_; rintro e w9 ⟨rfl, hbx⟩
  replace st := st.below hbx
  replace h1 := h1.fresh hbx (Nat.le_refl _)
  clear hbx
  go_wp2_with fail
  refine (sum2_any (x := ⟨false, 1, [3]⟩) (y := ⟨false, 1, []⟩) h1 RdI.nil (by decide +kernel)).mono ?_
  rintro e w10 ⟨Ac, nAc, cAc, rfl, hc, hbx⟩
  rw [show allMay [⟨false, 1, [3]⟩, ⟨false, 1, []⟩] = true from by decide +kernel] at hc ⊢
  simp only [if_true] at hc ⊢
  rw [k_c] at hc ⊢
  replace st := st.below hbx
  clear hbx
  clear h1
  have hzgc : (w10.alloc (Obj.cells #[.bool false, .int .u8 3, .slice Ac nAc cAc] 25)).heap.size = w10.heap.size + 1 := by simp
  go_wp2_with fail
  replace st := st.new ⟨false, 3, []⟩ hc
  dsimp only at st
  generalize w10.alloc (Obj.cells #[.bool false, .int .u8 3, .slice Ac nAc cAc] 25) = w11 at st hzgc ⊢
  try rw [← hzgc]
  generalize w10.heap.size = gc at st hzgc ⊢
  clear hc hzgc
  refine (some1 w11 3 1).mono ?_; rintro e w12 ⟨rfl, hbx, h1⟩
  replace st := st.below hbx
  clear hbx
  go_wp2_with fail
  refine (scaleT_yes 0 5 (.agg #[.bool false, .int .u8 1, .slice (some ⟨w11.heap.size, 0, none⟩) 1 1]) ⟨false, 1, [3]⟩ w12 _ ⟨_, _, _, rfl, h1⟩ (Nat.le_refl _) (by decide) (by decide +kernel) (by decide)).mono ?_
  rintro e w13 ⟨Ad, nAd, cAd, rfl, hd, hbx⟩
  rw [k_d] at hd ⊢
  replace st := st.below hbx
  clear hbx h1
  have hzgd : (w13.alloc (Obj.cells #[.bool false, .int .u8 1, .slice Ad nAd cAd] 25)).heap.size = w13.heap.size + 1 := by simp
  go_wp2_with fail
  replace st := st.new ⟨false, 1, [3, 5]⟩ hd
  dsimp only at st
  generalize w13.alloc (Obj.cells #[.bool false, .int .u8 1, .slice Ad nAd cAd] 25) = w14 at st hzgd ⊢
  try rw [← hzgd]
  generalize w13.heap.size = gd at st hzgd ⊢
  clear hd hzgd
  refine (works_any _).mono ?_; rintro e w15 ⟨rfl, hbx⟩
  replace st := st.below hbx
  clear hbx
  obtain ⟨A0, n0, c0, x0, x1, x2, hr0⟩ := st.val (ga) ⟨false, 2, [3, 5]⟩ (by simp)
  dsimp only at x0 x1 x2
  go_wp2_with fail
  clear x0 x1 x2
  refine (text_lit (.agg #[.bool false, .int .u8 2, .slice A0 n0 c0]) ⟨false, 2, [3, 5]⟩ _ t_a (by decide +kernel) w15 _ ⟨A0, n0, c0, rfl, hr0⟩ (Nat.le_refl _) (Htab.out.below st.bel) (by decide)).mono ?_; rintro e w16 ⟨rfl, hbx⟩
  replace st := st.below hbx
  clear hbx hr0
  obtain ⟨A1, n1, c1, x0, x1, x2, hr1⟩ := st.val (gb) ⟨false, 2, [3]⟩ (by simp)
  dsimp only at x0 x1 x2
  go_wp2_with fail
  clear x0 x1 x2
  refine (text_lit (.agg #[.bool false, .int .u8 2, .slice A1 n1 c1]) ⟨false, 2, [3]⟩ _ t_b (by decide +kernel) w16 _ ⟨A1, n1, c1, rfl, hr1⟩ (Nat.le_refl _) (Htab.out.below st.bel) (by decide)).mono ?_; rintro e w17 ⟨rfl, hbx⟩
  replace st := st.below hbx
  clear hbx hr1
  obtain ⟨A2, n2, c2, x0, x1, x2, hr2⟩ := st.val (gc) ⟨false, 3, []⟩ (by simp)
  dsimp only at x0 x1 x2
  go_wp2_with fail
  clear x0 x1 x2
  refine (text_lit (.agg #[.bool false, .int .u8 3, .slice A2 n2 c2]) ⟨false, 3, []⟩ _ t_c (by decide +kernel) w17 _ ⟨A2, n2, c2, rfl, hr2⟩ (Nat.le_refl _) (Htab.out.below st.bel) (by decide)).mono ?_; rintro e w18 ⟨rfl, hbx⟩
  replace st := st.below hbx
  clear hbx hr2
  obtain ⟨A3, n3, c3, x0, x1, x2, hr3⟩ := st.val (gd) ⟨false, 1, [3, 5]⟩ (by simp)
  dsimp only at x0 x1 x2
  go_wp2_with fail
  clear x0 x1 x2
  refine (text_lit (.agg #[.bool false, .int .u8 1, .slice A3 n3 c3]) ⟨false, 1, [3, 5]⟩ _ t_d (by decide +kernel) w18 _ ⟨A3, n3, c3, rfl, hr3⟩ (Nat.le_refl _) (Htab.out.below st.bel) (by decide)).mono ?_; rintro e w19 ⟨rfl, hbx⟩
  replace st := st.below hbx
  clear hbx hr3
  go_wp2_with fail
  go_ret
  exact ⟨rfl, st.bel⟩

/-! ### the row's step -/
namespace termKnown
set_option maxRecDepth 100000 in
theorem lifted (os : Os) (started : os.Started) (H : Type) (enc : TypeId × Value → H) :
    ReturnsInHanded {} Tryd.checked os 9 .any (fun w args => (Rows.termKnownSpec.pre enc Tryd.prog Tryd.f9 [] false w args ∧ laidMetH Tryd.prog laid3 w) ∧ sizedMet enc Tryd.prog Tryd.f9 (OpenSpec.ofChange Rows.termKnownSpec) false w args) (Rows.termKnownSpec.post enc Tryd.prog Tryd.f9 false true false false) := by
  refine returnsInHanded_of_change_and (C := Tryd.checked) (X := fun w _ => laidMetH Tryd.prog laid3 w) (fun _ _ _ hh h => h.of_heap hh) own started (by kernel_rfl) Tryd.func9
    (ChangeSpec.witness_shaped (enc := enc) (C := Tryd.checked) (os := os) (X := fun w _ => laidMetH Tryd.prog laid3 w) false (World.doorLaid Tryd.prog 400 os) #[] 8 rfl (World.shaped_of_RefB (by kernel_rfl) (by kernel_rfl)) (by kernel_rfl) (by kernel_rfl) (by kernel_rfl) (door_met os _)) ?_
  intro W base args ds gs before hval0 hW hcnd hsz0 hL _
  have hsz : (DataW.weightsEach Tryd.prog (Tryd.f9.params.toList ++ Rows.termKnownSpec.plain.varTypes Tryd.prog) (ds ++ gs)).all (· ≤ reachBytes) = true := hsz0
  have hval : ∀ (j : Nat) t v, Tryd.f9.params[j]? = some t → args[j]? = some v → Value.okWide Tryd.prog W .any base t v := hval0
  have hW' := hW
  obtain ⟨p, q, hA0, hV, rfl, hfz, hnd⟩ := hW
  have hA : DataW.TrodAll enc Tryd.prog W 0 (fun _ => true) true Tryd.f9.params.toList args.toList ds p := hA0
  rw [Tryd.params9] at hA hval hsz
  obtain ⟨hargs, rfl, rfl⟩ := trodAll_nil hA
  obtain rfl : args = #[] := by cases args; simp_all
  obtain ⟨rfl, rfl⟩ := trodVars_none hV
  refine (walk_termKnown (w := W) (tab_of_laid hL) ).mono fun e W' ⟨he, bel⟩ => ?_
  subst he
  exact ⟨_, rfl, law_post laidOut (by kernel_rfl) rfl rfl Tryd.underlying4 hW' rfl rfl rfl bel⟩
theorem over : Rows.termKnownRow.holds Tryd.pinned (OpenSpec.ofChange Rows.termKnownSpec) :=
  OpenClaim.holds_of_wide 9 Tryd.f9 rfl rfl rfl rfl rfl rfl rfl ⟨rfl, rfl, rfl, rfl, rfl⟩ rfl rfl rfl rfl rfl (by kernel_rfl) Tryd.func9 (by kernel_rfl)
    (of_decide_eq_true (by kernel_rfl)) (by unfold Func.isWrapper; first | (rw [if_pos (by decide +kernel)]; kernel_rfl) | (rw [if_neg (by decide +kernel)]; exact ⟨rfl, rfl⟩))
    (fun os started H enc _ => lifted os started H enc)
theorem card : Rows.TermKnownCardSaid :=
  Claim7.holds_tied_plain_at .later [] [.data, .data, .data] true Rows.termKnownCard.stood.harness false
    over (fun _ h => by cases h) (by kernel_rfl) (fun _ h => by cases h) termKnown_row_tie rfl ⟨rfl, rfl⟩ (by kernel_rfl) rfl
    (fun f fn hf hfn => by
      obtain rfl : f = 9 := Option.some.inj ((show Tryd.prog.funcNamed "usufruct/usufructlaw02.TermKnown" = some 9 by kernel_rfl).symm.trans hf) |>.symm
      obtain rfl : fn = Tryd.f9 := (Option.some.inj (Tryd.func9.symm.trans hfn)).symm
      exact ⟨by kernel_rfl, fun j t ht => by rw [Tryd.params9] at ht; simp at ht⟩)
    (by kernel_rfl)
/-- the statement -/
theorem proved : Rows.TermKnownCardSaid := card
#print axioms proved
end termKnown
end Go.Proofs.YtbccnfgceabopaaDoor
