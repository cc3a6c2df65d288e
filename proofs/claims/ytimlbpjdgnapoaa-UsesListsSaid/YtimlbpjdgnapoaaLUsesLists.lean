/- UsesLists holds for every input: any number of uses are joined and summed as the document says. No conditions. -/
import Derived.Test.YtimlbpjdgnapoaaM10
import Derived.Test.YtimlbpjdgnapoaaM11
namespace Go.Proofs.Ytimlbpjdgnapoaa
set_option linter.unusedVariables false
set_option linter.unusedSimpArgs false
open Go.ChangeShapes Go.WideShapes Go.ChangeAt Go.RowKit

theorem each_snoc {F : List TermD → TermD} (hF : EachF F) (hs : ∀ (ts : List TermD) (t : TermD), ts ≠ [] → (∀ x ∈ ts, mayB x = true) → mayB t = true → F [F ts, t] = F (ts ++ [t])) {ls : List (List UseD)} {l : List UseD} (hne : ls ≠ []) (h : ∀ l ∈ ls, Good l) (hl : Good l) :
    eachU F [eachU F ls, l] = eachU F (ls ++ [l]) := by
  have hg := each_good hF h
  have h2 : ∀ x ∈ [eachU F ls, l], Good x := by simp [hg, hl]
  have h3 : ∀ x ∈ ls ++ [l], Good x := fun x hx => by
    rcases List.mem_append.1 hx with h' | h'
    · exact h x h'
    · rw [List.mem_singleton] at h'; subst h'; exact hl
  refine good_ext (each_good hF h2) (each_good hF h3) fun v => ?_
  rw [each_of hF h2, each_of hF h3, List.map_append]
  simp only [List.map_cons, List.map_nil]
  rw [each_of hF h]
  refine hs _ _ (by simpa using hne) (fun x hx => ?_) (mayU_ofU hl.mayU v)
  obtain ⟨y, hy, rfl⟩ := List.mem_map.1 hx
  exact mayU_ofU (h y hy).mayU v
theorem each_one {F : List TermD → TermD} (hF : EachF F) (h1 : ∀ t, mayB t = true → F [t] = t) {l : List UseD} (h : Good l) : eachU F [l] = l := by
  have h2 : ∀ x ∈ [l], Good x := by simp [h]
  refine good_ext (each_good hF h2) h fun v => ?_
  rw [each_of hF h2]
  exact h1 _ (mayU_ofU h.mayU v)
theorem each_nil (F : List TermD → TermD) : eachU F [] = [] := by
  have : sset (varsOf []) = [] := sset_self List.Pairwise.nil
  unfold eachU
  rw [this]; rfl
theorem joinT_snoc2 (ts : List TermD) (t : TermD) (h1 : ts ≠ []) (h2 : ∀ x ∈ ts, mayB x = true) (h3 : mayB t = true) : joinT [joinT ts, t] = joinT (ts ++ [t]) := by
  rw [← rJoin_two (joinT_may ts h2) h3]; exact rJoin_snoc h1 h2 h3
theorem sumT_snoc2 (ts : List TermD) (t : TermD) (h1 : ts ≠ []) (h2 : ∀ x ∈ ts, mayB x = true) (h3 : mayB t = true) : sumT [sumT ts, t] = sumT (ts ++ [t]) := by
  rw [← rSum_two (sumT_may ts h2) h3]; exact rSum_snoc h3
theorem vars_small {ls : List (List UseD)} (h : SmallU ls) : (varsOf ls).length ≤ 1048576 := by
  have h2 : ∀ l ∈ ls, l.length ≤ 500 := h.len
  have key : ∀ ls : List (List UseD), (∀ l ∈ ls, l.length ≤ 500) → (varsOf ls).length ≤ 500 * ls.length := by
    intro ls
    induction ls with
    | nil => intro _; simp [varsOf]
    | cons l ls ih =>
      intro h
      have h1 := ih fun x hx => h x (by simp [hx])
      have h3 := h l (by simp)
      have e : varsOf (l :: ls) = l.map (·.v) ++ varsOf ls := by simp [varsOf]
      rw [e, List.length_append, List.length_map, List.length_cons]
      omega
  have := key ls h2
  have := h.num
  omega
theorem joinU_all (A : Option Addr) (n c : Nat) (ls : List (List UseD)) (w : World) (hr : LsV w w.heap.size A n c ls) (hn : n ≤ 1048576) (hV : (varsOf ls).length ≤ 1048576) :
    Calls Try.prog 10 #[.slice A n c] w (RetUE (if ls.any (fun x => !mayU x) then [] else eachU joinT ls) (if ls.any (fun x => !mayU x) then 2 else 0) w) := by
  have h := joinU_any A n c ls w hr hn hV
  cases hb : ls.any (fun x => !mayU x) <;> rw [hb] at h <;> simpa using h
theorem sumU_all (A : Option Addr) (n c : Nat) (ls : List (List UseD)) (w : World) (hr : LsV w w.heap.size A n c ls) (hn : n ≤ 1048576) (hV : (varsOf ls).length ≤ 1048576) :
    Calls Try.prog 11 #[.slice A n c] w (RetUE (if ls.any (fun x => !mayU x) then [] else eachU sumT ls) (if ls.any (fun x => !mayU x) then 2 else 0) w) := by
  have h := sumU_any A n c ls w hr hn hV
  cases hb : ls.any (fun x => !mayU x) <;> rw [hb] at h <;> simpa using h

set_option maxRecDepth 100000 in
set_option maxHeartbeats 4000000 in
theorem walkA_usesLists (A : Option Addr) (n c : Nat) (ls : List (List UseD)) (w : World) (hr : LsV w w.heap.size A n c ls) (hbig : ∀ l ∈ ls, l.length ≤ 4398046511104) :
    Calls Try.prog 3 #[.slice A n c] w fun e w' => e = .returned (.bool true) ∧ Below w.heap.size w w' := by
  have hg := greatU_any A n c ls w hr hbig
  have hlen := hr.len
  have Hg := Lib.hid hg
  have Hr := Lib.hid hr
  clear hg hr hbig
  go_enter Try.func3, Try.ntmps3
  go_wp2_with fail
  refine Hg.out.mono ?_; rintro e w1 ⟨r, rfl, hsm, hb1⟩
  cases r with
  | true =>
    clear hsm Hg
    go_wp2_with fail
    refine (worksU_any _).mono ?_; rintro e w2 ⟨rfl, hb2⟩
    go_wp2_with fail
    go_ret
    exact ⟨rfl, hb1.trans (hb2.mono hb1.size)⟩
  | false =>
    have hs := hsm rfl
    have hn20 : n ≤ 20 := by rw [← hlen]; exact hs.num
    have hV := vars_small hs
    have hr1 := (Hr.out.below hb1).more hb1.size
    have hj := joinU_all A n c ls w1 hr1 (by omega) hV
    obtain ⟨B, hB⟩ : ∃ B, ls.any (fun x => !mayU x) = B := ⟨_, rfl⟩
    rw [hB] at hj
    have Hj := Lib.hid hj
    have Hb1 := Lib.hid hb1
    have HB := Lib.hid hB
    have HV := Lib.hid hV
    clear hs hsm hV hr1 hj hB hb1 Hg
    obtain ⟨X, hX⟩ : ∃ X, (if B then [] else eachU joinT ls) = X := ⟨_, rfl⟩
    obtain ⟨Y, hY⟩ : ∃ Y, (if B then [] else eachU sumT ls) = Y := ⟨_, rfl⟩
    obtain ⟨E, hE⟩ : ∃ E : Int, (if B then 2 else 0) = E := ⟨_, rfl⟩
    rw [hX, hE] at Hj
    have HX := Lib.hid hX
    have HY := Lib.hid hY
    have HE := Lib.hid hE
    clear hX hY hE
    go_wp2_with fail
    refine Hj.out.mono ?_; rintro e w2 ⟨Ax, nx, cx, rfl, hx, hb2⟩
    have hb12 := Hb1.out.trans (hb2.mono Hb1.out.size)
    have hs2 := sumU_all A n c ls w2 ((Hr.out.below hb12).more hb12.size) (by omega) HV.out
    rw [HB.out, HY.out, HE.out] at hs2
    have Hs2 := Lib.hid hs2
    have Hx := Lib.hid hx
    have Hb2 := Lib.hid hb12
    clear hs2 hx hb2 hb12 Hj Hb1
    go_wp2_with fail
    refine Hs2.out.mono ?_; rintro e w3 ⟨Ay, ny, cy, rfl, hy, hb3⟩
    have Hx3 := Lib.hid ((Hx.out.below hb3).more hb3.size)
    have Hy3 := Lib.hid hy
    have Hb3 := Lib.hid (Hb2.out.trans (hb3.mono Hb2.out.size))
    clear hy hb3 Hs2 Hx Hb2
    go_wp2_with fail
    go_loopg [7, 8, 26] n (fun gh a b i wr => ∃ (k : Nat) (Aj : Option Addr) (nj cj : Nat) (As : Option Addr) (ns cs : Nat), k ≤ n ∧ gh = n - k ∧ i = .int .i64 k ∧ a = .slice Aj nj cj ∧ b = .slice As ns cs ∧ (∀ l ∈ ls.take k, Good l) ∧
      UsesV wr wr.heap.size Aj nj cj (eachU joinT (ls.take k)) ∧ UsesV wr wr.heap.size As ns cs (eachU sumT (ls.take k)) ∧ Below w3.heap.size w3 wr)
    case atStart => exact ⟨0, none, 0, 0, none, 0, 0, Nat.zero_le _, rfl, rfl, rfl, rfl, by simp, by rw [List.take_zero, each_nil]; exact UsesV.nil, by rw [List.take_zero, each_nil]; exact UsesV.nil, Below.refl _ _⟩
    case round =>
      obtain ⟨k, Aj, nj, cj, As, ns, cs, hk, rfl, rfl, rfl, rfl, hgd, hj, hs, hbel⟩ := hrel
      have Hgd := Lib.hid hgd
      have Hj := Lib.hid hj
      have Hs := Lib.hid hs
      have hbw := Hb3.out.trans (hbel.mono Hb3.out.size)
      clear hgd hj hs
      by_cases hkn : k < n
      · have d0 : decide (k < n) = true := by simpa using hkn
        have hk' : k < ls.length := by omega
        obtain ⟨b, o, q, hb, hc⟩ := (Hr.out.below hbw).at_ (by omega)
        subst q
        obtain ⟨Ai, ni, ci, e0, hxi⟩ := hc k hk'
        have hq := refMayU_any Ai ni ci ls[k] wr (hxi.more hbw.size)
        have Hxi := Lib.hid (hxi.more hbw.size)
        have htk : ls.take (k + 1) = ls.take k ++ [ls[k]] := List.take_succ_eq_append_getElem hk'
        have Hmem : Hid (ls[k] ∈ ls) := Lib.hid (List.getElem_mem hk')
        obtain ⟨l, hl⟩ : ∃ l, ls[k] = l := ⟨_, rfl⟩
        rw [hl] at hq htk Hmem Hxi
        have k1 : (0 : Int) ≤ (k : Int) := by omega
        have k2 : (k : Int) < n := by omega
        obtain ⟨M, hM⟩ : ∃ M, mayU l = M := ⟨_, rfl⟩
        rw [hM] at hq
        have Hq := Lib.hid hq
        have HM := Lib.hid hM
        have Htk := Lib.hid htk
        have Hbel := Lib.hid hbel
        clear hc hxi hl hq hM htk hbw hbel
        cases M with
        | false =>
          have hBt : B = true := by
            rw [← HB.out, List.any_eq_true]
            exact ⟨l, Hmem.out, by rw [HM.out]; rfl⟩
          have hE2 : E = 2 := by rw [← HE.out, hBt]; rfl
          subst hE2
          clear hBt
          go_wp2_with fail
          refine Hq.out.mono ?_; rintro e w5 ⟨rfl, hb5⟩
          go_wp2_with fail
          refine (worksU_any _).mono ?_; rintro e w6 ⟨rfl, hb6⟩
          go_wp2_with fail
          go_ret
          have h1 := Hb3.out.trans (Hbel.out.mono Hb3.out.size)
          have h2 := h1.trans (hb5.mono h1.size)
          exact ⟨rfl, h2.trans (hb6.mono h2.size)⟩
        | true =>
          have hgl : Good l := good_of HM.out
          have hgd2 : ∀ x ∈ ls.take (k + 1), Good x := fun x hx => by
            rw [Htk.out] at hx
            rcases List.mem_append.1 hx with h | h
            · exact Hgd.out x h
            · rw [List.mem_singleton] at h; subst h; exact hgl
          have Hgd2 := Lib.hid hgd2
          have Hgl := Lib.hid hgl
          clear hgd2 hgl
          go_wp2_with fail
          refine Hq.out.mono ?_; rintro e w5 ⟨rfl, hb5⟩
          have Hj5 := Lib.hid ((Hj.out.below hb5).more hb5.size)
          have Hs5 := Lib.hid ((Hs.out.below hb5).more hb5.size)
          have Hxi5 := Lib.hid ((Hxi.out.below hb5).more hb5.size)
          have Hb5 := Lib.hid (Hbel.out.trans (hb5.mono Hbel.out.size))
          clear hb5 Hq Hbel Hxi Hj Hs
          by_cases hk0 : k = 0
          · have d1 : ((k : Int) == 0) = true := by simp [hk0]
            have hj1 : eachU joinT (ls.take (k + 1)) = l := by
              rw [Htk.out, hk0, List.take_zero, List.nil_append]; exact each_one eachJoin (fun t ht => joinT_one ht) Hgl.out
            have hs1 : eachU sumT (ls.take (k + 1)) = l := by
              rw [Htk.out, hk0, List.take_zero, List.nil_append]; exact each_one eachSum (fun t ht => sumT_one ht) Hgl.out
            have Hj1 := Lib.hid hj1
            have Hs1 := Lib.hid hs1
            clear hj1 hs1 hk0
            go_wp2_with fail
            go_roundg (n - (k + 1))
            case measure => omega
            case rel => exact ⟨k + 1, Ai, ni, ci, Ai, ni, ci, by omega, rfl, by go_num, rfl, rfl, Hgd2.out, by rw [Hj1.out]; exact Hxi5.out, by rw [Hs1.out]; exact Hxi5.out, Hb5.out⟩
          · have d1 : ((k : Int) == 0) = false := by simp; omega
            have hne : ls.take k ≠ [] := fun e => by
              have := congrArg List.length e
              rw [List.length_take, List.length_nil] at this
              omega
            have hj1 : eachU joinT (ls.take (k + 1)) = eachU joinT [eachU joinT (ls.take k), l] := by
              rw [Htk.out]; exact (each_snoc eachJoin joinT_snoc2 hne Hgd.out Hgl.out).symm
            have hs1 : eachU sumT (ls.take (k + 1)) = eachU sumT [eachU sumT (ls.take k), l] := by
              rw [Htk.out]; exact (each_snoc eachSum sumT_snoc2 hne Hgd.out Hgl.out).symm
            have hq1 := refJoinU_any Aj nj cj _ Ai ni ci _ w5 Hj5.out Hxi5.out (each_good eachJoin Hgd.out) Hgl.out
            rw [← hj1] at hq1
            have Hq1 := Lib.hid hq1
            have Hs1 := Lib.hid hs1
            clear hj1 hs1 hne hq1
            go_wp2_with fail
            refine Hq1.out.mono ?_; rintro e w6 ⟨A6, n6, c6, rfl, hj6, hb6⟩
            have hq2 := refSumU_any As ns cs _ Ai ni ci _ w6 ((Hs5.out.below hb6).more hb6.size) ((Hxi5.out.below hb6).more hb6.size) (each_good eachSum Hgd.out) Hgl.out
            rw [← Hs1.out] at hq2
            have Hq2 := Lib.hid hq2
            have Hj6 := Lib.hid hj6
            have Hb6 := Lib.hid (Hb5.out.trans (hb6.mono Hb5.out.size))
            clear hq2 hj6 hb6 Hq1
            go_wp2_with fail
            refine Hq2.out.mono ?_; rintro e w7 ⟨A7, n7, c7, rfl, hs7, hb7⟩
            have Hj7 := Lib.hid ((Hj6.out.below hb7).more hb7.size)
            have Hs7 := Lib.hid hs7
            have Hb7 := Lib.hid (Hb6.out.trans (hb7.mono Hb6.out.size))
            clear hs7 hb7 Hq2
            go_wp2_with fail
            go_roundg (n - (k + 1))
            case measure => omega
            case rel => exact ⟨k + 1, A6, n6, c6, A7, n7, c7, by omega, rfl, by go_num, rfl, rfl, Hgd2.out, Hj7.out, Hs7.out, Hb7.out⟩
      · have d0 : decide (k < n) = false := by simpa using hkn
        have hkn' : k = n := by omega
        have htk : ls.take k = ls := List.take_of_length_le (by omega)
        have hall : ∀ l ∈ ls, Good l := by have := Hgd.out; rwa [htk] at this
        have hBf : B = false := by
          rw [← HB.out, List.any_eq_false]
          intro l hl
          simp [(hall l hl).mayU]
        have hE0 : E = 0 := by rw [← HE.out, hBf]; rfl
        have hX : X = eachU joinT ls := by rw [← HX.out, hBf]; rfl
        have hY : Y = eachU sumT ls := by rw [← HY.out, hBf]; rfl
        have hj := Hj.out
        have hs := Hs.out
        rw [htk] at hj hs
        rw [← hX] at hj
        rw [← hY] at hs
        subst hE0
        have hx := (Hx3.out.below hbel).more hbel.size
        have hy := (Hy3.out.below hbel).more hbel.size
        have hq := refSameU_any Ax nx cx X Aj nj cj X wr hx hj
        rw [decide_eq_true rfl] at hq
        have Hq := Lib.hid hq
        have Hss := Lib.hid hs
        have Hyy := Lib.hid hy
        have Hbw := Lib.hid hbw
        clear hall hBf hX hY hj hs hx hy hq hbel hbw htk Hj Hs hkn'
        go_wp2_with fail
        refine Hq.out.mono ?_; rintro e w5 ⟨rfl, hb5⟩
        have hq := refSameU_any Ay ny cy Y As ns cs Y w5 ((Hyy.out.below hb5).more hb5.size) ((Hss.out.below hb5).more hb5.size)
        rw [decide_eq_true rfl] at hq
        have Hq2 := Lib.hid hq
        have Hb5 := Lib.hid (Hbw.out.trans (hb5.mono Hbw.out.size))
        clear hq hb5 Hq
        go_wp2_with fail
        refine Hq2.out.mono ?_; rintro e w6 ⟨rfl, hb6⟩
        go_wp2_with fail
        refine (worksU_any _).mono ?_; rintro e w7 ⟨rfl, hb7⟩
        go_wp2_with fail
        go_ret
        have h1 := Hb5.out.trans (hb6.mono Hb5.out.size)
        exact ⟨rfl, h1.trans (hb7.mono h1.size)⟩

theorem walk_usesLists {w : World} (v : Value) (h : LsIn w v) :
    Calls Try.prog 3 #[v] w fun e w' => e = .returned (.bool true) ∧ Below w.heap.size w w' := by
  obtain ⟨A, n, c, ls, rfl, h1, h2⟩ := h
  exact walkA_usesLists A n c ls w h1 h2

/-! ### the row's step -/
namespace usesLists
set_option maxRecDepth 100000 in
theorem lifted (os : Os) (started : os.Started) (H : Type) (enc : TypeId × Value → H) :
    ReturnsInHanded {} Try.checked os 3 .any (Rows.usesListsSpec.pre6 enc Try.prog Try.f3 Rows.usesListsRow.domain false) (Rows.usesListsSpec.post enc Try.prog Try.f3 false true false false) := by
  refine returnsInHanded_of_change_sized (C := Try.checked) own started (by kernel_rfl) Try.func3
    (ChangeSpec.witness6 (enc := enc) (C := Try.checked) false ⟨#[], #[.slice none 0 0], []⟩ 8 (by kernel_rfl) (by kernel_rfl) (by kernel_rfl) (by kernel_rfl)) ?_
  intro W base args ds gs before hval0 hW hcnd hsz0 _
  have hsz : (DataW.weightsEach Try.prog (Try.f3.params.toList ++ Rows.usesListsSpec.plain.varTypes Try.prog) (ds ++ gs)).all (· ≤ reachBytes) = true := hsz0
  have hval : ∀ (j : Nat) t v, Try.f3.params[j]? = some t → args[j]? = some v → Value.okWide Try.prog W .any base t v := hval0
  have hW' := hW
  obtain ⟨p, q, hA0, hV, rfl, hfz, hnd⟩ := hW
  have hA : DataW.TrodAll enc Try.prog W 0 (fun _ => true) true Try.f3.params.toList args.toList ds p := hA0
  rw [Try.params3] at hA hval hsz
  obtain ⟨v0, vs0, d0, ds0, p0, q0, hargs, rfl, rfl, h0, r_0⟩ := trodAll_cons hA
  obtain ⟨rfl, rfl, rfl⟩ := trodAll_nil r_0
  obtain rfl : args = #[v0] := by cases args; simp_all
  obtain ⟨rfl, rfl⟩ := trodVars_none hV
  have w0 := rd_lists (hval 0 22 v0 rfl rfl) h0 (light_of hsz (j := 0) rfl rfl)
  refine (walk_usesLists (w := W) v0 w0).mono fun e W' ⟨he, bel⟩ => ?_
  subst he
  exact ⟨_, rfl, law_post laidOut (by kernel_rfl) rfl rfl Try.underlying4 hW' rfl rfl rfl bel⟩
theorem over : Rows.usesListsRow.holds Try.pinned (OpenSpec.ofChange Rows.usesListsSpec) :=
  OpenClaim.holds_of_wide 3 Try.f3 rfl rfl rfl rfl rfl rfl rfl ⟨rfl, rfl, rfl, rfl, rfl⟩ rfl rfl rfl rfl rfl (by kernel_rfl) Try.func3 (by kernel_rfl)
    (of_decide_eq_true (by kernel_rfl)) (by unfold Func.isWrapper; first | (rw [if_pos (by decide +kernel)]; kernel_rfl) | (rw [if_neg (by decide +kernel)]; exact ⟨rfl, rfl⟩))
    (fun os started H enc _ => lifted os started H enc)
/-- the statement -/
theorem proved : Rows.UsesListsSaid := over
#print axioms proved
end usesLists
end Go.Proofs.Ytimlbpjdgnapoaa
