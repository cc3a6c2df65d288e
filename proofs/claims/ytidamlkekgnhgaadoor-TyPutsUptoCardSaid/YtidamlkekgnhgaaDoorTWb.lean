/- Texts of this claim, laid one behind the other: TvF, TvP, TvQ, TvG, TvH. -/
import Derived.Test.YtidamlkekgnhgaaDoorTWa
import Derived.Deep.RegionHeld3
import Derived.Test.YtidamlkekgnhgaaDoorLawE
/- The contract of ty.Vars. -/
namespace Go.Proofs.YtidamlkekgnhgaaDoor
set_option linter.unusedVariables false
set_option linter.unusedSimpArgs false
open Go.RowKit

theorem vars1_any (q : Nat) (w : World) :
    Calls Tryd.prog 49 #[.pointer (some ⟨q, 0, none⟩)] w fun e w' => e = .returned (.func (.func 50) #[] #[.pointer (some ⟨w.heap.size, 0, none⟩)]) ∧ Blk w' w.heap.size 80 #[.pointer (some ⟨q, 0, none⟩)] ∧ Below w.heap.size w w' ∧ w'.heap.size = w.heap.size + 1 := by
  go_enter Tryd.func49, Tryd.ntmps49
  go_wp2_with fail
  go_ret
  exact ⟨rfl, blk_new w _ _, below_box _, by simp⟩
theorem ownsRow_mono {w : World} {base base' : Nat} {e : TypeId} {size : Nat} {v : Value} {n : Nat} {xs : List Value} (h : w.ownsRow base e size v n xs) (hb : base' ≤ base) : w.ownsRow base' e size v n xs := by
  rcases h.2 with h0 | ⟨g, cap, cur, e0, hg, h2⟩
  · exact ⟨h.1, .inl h0⟩
  · exact ⟨h.1, .inr ⟨g, cap, cur, e0, Nat.le_trans hb hg, h2⟩⟩
/-- what Vars returns: two lists of its own -/
def RetVs (l1 l2 : List Int) (w : World) (e : Ending) (w' : World) : Prop :=
  ∃ A1 n1 c1 A2 n2 c2, e = .returned (.tuple #[.slice A1 n1 c1, .slice A2 n2 c2]) ∧ w'.ownsRow w.heap.size 3 1 (.slice A1 n1 c1) n1 (l1.map (Value.int .i64)) ∧ w'.ownsRow w.heap.size 3 1 (.slice A2 n2 c2) n2 (l2.map (Value.int .i64)) ∧ (∀ a b : Addr, A1 = some a → A2 = some b → a.block ≠ b.block) ∧ Below w.heap.size w w'
theorem ListAt.set_same {w : World} {B q c : Nat} {l : List Int} {A : Option Addr} (h : ListAt w B q l A c) {q' : Nat} (hq : q' < B) (v : Value) (hv : q' = q → v = .slice A l.length c) : ListAt (w.setCell ⟨q', 0, none⟩ v) B q l A c := by
  refine ⟨?_, ownsRow_setCell_below h.2 (by show q' < B; exact hq) _⟩
  by_cases e : q' = q
  · subst e
    rw [hv rfl]
    exact h.1.set_ 0 _
  · exact h.1.other e 0 v
set_option maxRecDepth 100000 in
set_option maxHeartbeats 4000000 in
theorem vars_any (t : TyD) (A : Option Addr) (m cp : Nat) (w : World) (hl : TysV w w.heap.size A m cp t.l) (hn1 : (varsT t).length ≤ 1099511627776) (hn2 : (multsT t).length ≤ 1099511627776) :
    Calls Tryd.prog 23 #[.agg #[.int .u8 t.k, .int .i64 t.n, .int .i64 t.v, .int .u8 t.c, .slice A m cp]] w (RetVs (varsT t) (multsT t) w) := by
  obtain ⟨W1, hW1⟩ : ∃ W, w.alloc (Obj.cells #[.int .u8 t.k, .int .i64 t.n, .int .i64 t.v, .int .u8 t.c, .slice A m cp] 27) = W := ⟨_, rfl⟩
  have hb1 := below_box (w := w) (Obj.cells #[.int .u8 t.k, .int .i64 t.n, .int .i64 t.v, .int .u8 t.c, .slice A m cp] 27)
  have hz := blk_new w #[.int .u8 t.k, .int .i64 t.n, .int .i64 t.v, .int .u8 t.c, .slice A m cp] 27
  have hs1 : W1.heap.size = w.heap.size + 1 := by rw [← hW1]; simp
  rw [hW1] at hb1 hz
  obtain ⟨W2, hW2⟩ : ∃ W, W1.alloc (Obj.cells #[.slice none 0 0] 42) = W := ⟨_, rfl⟩
  have hb2 := below_box (w := W1) (Obj.cells #[.slice none 0 0] 42)
  have hx := blk_new W1 #[.slice none 0 0] 42
  have hs2 : W2.heap.size = w.heap.size + 1 + 1 := by rw [← hW2]; simp [hs1]
  rw [hW2] at hb2 hx
  obtain ⟨W3, hW3⟩ : ∃ W, W2.alloc (Obj.cells #[.slice none 0 0] 42) = W := ⟨_, rfl⟩
  have hb3 := below_box (w := W2) (Obj.cells #[.slice none 0 0] 42)
  have hy := blk_new W2 #[.slice none 0 0] 42
  have hs3 : W3.heap.size = w.heap.size + 1 + 1 + 1 := by rw [← hW3]; simp [hs2]
  rw [hW3] at hb3 hy
  have hbel := (hb1.trans (hb2.mono hb1.size)).trans (hb3.mono (by omega))
  have hz3 := (hz.below hb2 (by omega)).below hb3 (by omega)
  have hx3 := hx.below hb3 (by omega)
  rw [hs1] at hx3
  rw [hs2] at hy
  have hl3 := hl.below hbel
  have hWs : ((w.alloc (Obj.cells #[.int .u8 t.k, .int .i64 t.n, .int .i64 t.v, .int .u8 t.c, .slice A m cp] 27)).alloc (Obj.cells #[.slice none 0 0] 42)).alloc (Obj.cells #[.slice none 0 0] 42) = W3 := by rw [hW1, hW2, hW3]
  have e0 := hz3.cell 0
  have e1 := hz3.cell 1
  have e2 := hz3.cell 2
  have e3 := hz3.cell 3
  have e4 := hz3.cell 4
  have gz := hz3.lt
  have HWs := Lib.hid hWs
  have Hz := Lib.hid hz3
  have Hbel := Lib.hid hbel
  have Hx := Lib.hid hx3
  have Hy := Lib.hid hy
  have Hl := Lib.hid hl3
  have Hs3 := Lib.hid hs3
  have Hle : Hid (w.heap.size ≤ W3.heap.size) := Lib.hid hbel.size
  have Hn1 : Hid ((addAll [] (allV t)).length ≤ 1099511627776) := Lib.hid hn1
  have Hn2 : Hid ((addAll [] (allM t)).length ≤ 1099511627776) := Lib.hid hn2
  clear hn1 hn2
  clear hb1 hz hs1 hb2 hx hs2 hb3 hy hs3 hbel hz3 hx3 hl3 hl hWs hW1 hW2 hW3 W1 W2
  go_enter Tryd.func23, Tryd.ntmps23
  go_wp2_with fail
  rw [HWs.out]
  have hbS : Below W3.heap.size W3 W3.drew := Below.drew (Below.refl _ _)
  have hsz : W3.drew.heap.size = w.heap.size + 1 + 1 + 1 := Hs3.out
  have st0 := trivial
  go_region_held3 (fun w' => w'.cell? ⟨w.heap.size, 0, none⟩ = some (.int .u8 t.k) ∧ w'.cell? ⟨w.heap.size, 1, none⟩ = some (.int .i64 t.n) ∧ w'.cell? ⟨w.heap.size, 2, none⟩ = some (.int .i64 t.v) ∧ w'.cell? ⟨w.heap.size, 3, none⟩ = some (.int .u8 t.c) ∧ w'.cell? ⟨w.heap.size, 4, none⟩ = some (.slice A m cp))
    (first | go_keep | exact ⟨(hbS.cell (p := ⟨w.heap.size, 0, none⟩) gz).trans e0, (hbS.cell (p := ⟨w.heap.size, 1, none⟩) gz).trans e1, (hbS.cell (p := ⟨w.heap.size, 2, none⟩) gz).trans e2, (hbS.cell (p := ⟨w.heap.size, 3, none⟩) gz).trans e3, (hbS.cell (p := ⟨w.heap.size, 4, none⟩) gz).trans e4⟩ | exact ⟨y0, y1, y2, y3, y4⟩)
    ((first
      | (go_at_call 49; clear st0; have st1 := trivial; refine (vars1_any (w.heap.size + 1) _).mono ?_; rintro e wa ⟨rfl, hna, hba, hsa⟩; rw [hsz] at hna hsa ⊢; clear hsz; replace hbS := hbS.trans (hba.mono hbS.size); have Hna := Lib.hid hna; have Hsa := Lib.hid hsa; clear hba hna hsa)
      | (go_at_call 49; clear st1; have st2 := trivial; refine (vars1_any (w.heap.size + 1 + 1) _).mono ?_; rintro e wb ⟨rfl, hnb, hbb, hsb⟩; rw [Hsa.out] at hnb hsb ⊢; have hna := Hna.out.below hbb Hna.out.lt; replace hbS := hbS.trans (hbb.mono hbS.size); have Hnb := Lib.hid hnb; have Hsb := Lib.hid hsb; clear Hna; have Hna := Lib.hid hna; clear hbb hnb hsb hna Hsa)
      | (go_at_call 51; clear st2; have st3 := trivial; have hv : Vs w.heap.size [] [] wb := ⟨none, 0, none, 0, Hna.out, Hnb.out, ⟨Hx.out.below hbS Hx.out.lt, World.ownsRow_nil _ _ _ _⟩, ⟨Hy.out.below hbS Hy.out.lt, World.ownsRow_nil _ _ _ _⟩, (fun a b h => by cases h), by rw [Hsb.out]; exact Nat.le_refl _⟩; refine (walk_any w.heap.size W3 t A m cp Hl.out wb [] [] (hbS.mono Hle.out) hv Hn1.out Hn2.out).mono ?_; rintro e wc ⟨rfl, hvs, hvo⟩; have hz9 := (Hz.out.below hbS Hz.out.lt).vout hvo (by omega) (by omega) (by decide); have y0 := hz9.cell 0; have y1 := hz9.cell 1; have y2 := hz9.cell 2; have y3 := hz9.cell 3; have y4 := hz9.cell 4; have Hvs := Lib.hid hvs; have Hvo := Lib.hid hvo; have HbS := Lib.hid hbS; clear hz9 hv hvs hvo hbS)))
  obtain ⟨A1, c1, A2, c2, h1, h2, h3, h4, h5, h6⟩ := Hvs.out
  have hl1 : addAll [] (allV t) = varsT t := rfl
  have hl2 : addAll [] (allM t) = multsT t := rfl
  rw [hl1] at h3
  rw [hl2] at h4
  clear hl1 hl2
  obtain ⟨L1, hL1⟩ : ∃ L, varsT t = L := ⟨_, rfl⟩
  obtain ⟨L2, hL2⟩ : ∃ L, multsT t = L := ⟨_, rfl⟩
  rw [hL1] at h3
  rw [hL2] at h4
  have k3 := (h3.set_same (q' := w.heap.size + 1) (by omega) (.slice A1 L1.length c1) (fun _ => rfl)).set_same (q' := w.heap.size + 1 + 1) (by omega) (.slice A2 L2.length c2) (fun e => absurd e (by omega))
  have k4 := (h4.set_same (q' := w.heap.size + 1) (by omega) (.slice A1 L1.length c1) (fun e => absurd e (by omega))).set_same (q' := w.heap.size + 1 + 1) (by omega) (.slice A2 L2.length c2) (fun _ => rfl)
  have x1 := h3.1.cell 0
  have x2 := h4.1.cell 0
  have f1 := h3.1.frozen 0
  have f2 := h4.1.frozen 0
  have hle1 : w.heap.size ≤ w.heap.size + 1 := by omega
  have hle2 : w.heap.size ≤ w.heap.size + 1 + 1 := by omega
  have hne : w.heap.size + 1 ≠ w.heap.size + 1 + 1 := by omega
  have hb := (((Hbel.out.trans ((HbS.out.mono Hle.out).trans Hvo.out.1)).setCell (p := ⟨w.heap.size + 1, 0, none⟩) hle1 (.slice A1 L1.length c1)).setCell (p := ⟨w.heap.size + 1 + 1, 0, none⟩) hle2 (.slice A2 L2.length c2))
  have f2' : (wc.setCell ⟨w.heap.size + 1, 0, none⟩ (.slice A1 L1.length c1)).frozen? ⟨w.heap.size + 1 + 1, 0, none⟩ = false := (h4.set_same (q' := w.heap.size + 1) (by omega) (.slice A1 L1.length c1) (fun e => absurd e (by omega))).1.frozen 0
  have y1 := k3.1.cell 0
  have y2 := k4.1.cell 0
  have HR : Hid (RetVs (varsT t) (multsT t) w (.returned (.tuple #[.slice A1 L1.length c1, .slice A2 L2.length c2])) ((wc.setCell ⟨w.heap.size + 1, 0, none⟩ (.slice A1 L1.length c1)).setCell ⟨w.heap.size + 1 + 1, 0, none⟩ (.slice A2 L2.length c2))) := by
    rw [hL1, hL2]
    exact Lib.hid ⟨A1, L1.length, c1, A2, L2.length, c2, rfl, ownsRow_mono k3.2 (by omega), ownsRow_mono k4.2 (by omega), h5, hb⟩
  clear h1 h2 h3 h4 h5 h6 hL1 hL2 k3 k4 hb Hvs Hvo HbS
  go_wp2_with fail
  exact bodyPost_ret (v := .tuple #[.slice A1 L1.length c1, .slice A2 L2.length c2]) (by simp [results, Tryd.results23, go_sem, y1, y2]) rfl HR.out
end Go.Proofs.YtidamlkekgnhgaaDoor

/- Plain laws of ty.Put: what it tells in numbers of nodes; Put behind Put. No program's function. -/
namespace Go.Proofs.YtidamlkekgnhgaaDoor
set_option linter.unusedVariables false
set_option linter.unusedSimpArgs false
open Go.RowKit

def Fit (t : TyD) : Prop := mayT t = true ∧ nodes t ≤ 300
theorem fit_iff {t : TyD} (h : nodes t ≤ 1048576) : mayTE t = 0 ↔ Fit t :=
  ⟨fun e => ⟨(mayTE_facts e).1, may_small e h⟩, fun e => mayTE_ok e.1 e.2⟩
theorem grownN_le {sz : List Int} (h : ∀ s ∈ sz, 0 ≤ s ∧ s ≤ 300) (t : TyD) : 0 ≤ grownN sz t ∧ grownN sz t ≤ 300 * nodes t := by
  induction t using ty_ind with
  | h t ih =>
    have key : ∀ l : List TyD, (∀ x ∈ l, x ∈ t.l) → 0 ≤ grownN.grownL sz l ∧ grownN.grownL sz l ≤ 300 * nodes.nodesL l := by
      intro l
      induction l with
      | nil => intro _; exact ⟨Int.le_refl _, Int.le_refl _⟩
      | cons x l ihl =>
        intro hl
        have h1 := ih x (hl x (by simp))
        have h2 := ihl (fun y hy => hl y (List.mem_cons_of_mem _ hy))
        rw [grownN.grownL, nodes.nodesL]
        omega
    have h1 := key t.l (fun _ h => h)
    have hn : nodes t = 1 + nodes.nodesL t.l := nodes_eq t
    rw [grownN_eq]
    by_cases hc : t.k = 1 ∧ t.n < sz.length
    · rw [if_pos hc]
      have : 0 ≤ sz.getD t.n.toNat 0 ∧ sz.getD t.n.toNat 0 ≤ 300 := by
        rw [List.getD_eq_getElem?_getD]
        cases e : sz[t.n.toNat]? with
        | none => exact ⟨by simp, by simp⟩
        | some s => exact h s (List.mem_of_getElem? e)
      omega
    · rw [if_neg hc]
      omega
/-- what grown counts -/
theorem grown_is {t : TyD} {types : List TyD} (fm : Int → Int × Int) (ht : Fit t) (hts : ∀ u ∈ types, Fit u) : grownW (types.map sizeW) t = nodes (turnT (putV types) fm t) := by
  have hs : ∀ u ∈ types, sizeW u = nodes u := fun u hu => sizeW_small (by have := (hts u hu).2; omega)
  have hle := grownN_le (sz := types.map sizeW) (fun s hs' => by
    obtain ⟨u, hu, rfl⟩ := List.mem_map.1 hs'
    rw [hs u hu]
    have := (hts u hu).2
    omega) t
  have hg : grownN (types.map sizeW) t = nodes (turnT (putV types) fm t) := by
    refine grown_nodes (fun n hn => (allV_nonneg ht.1 n hn).1) (fun n hn => ?_) ht.1
    have h0 := (allV_nonneg ht.1 n hn).1
    rw [List.length_map]
    unfold putV
    by_cases hlt : n < types.length
    · have hi : n.toNat < types.length := by omega
      have h1 := hs _ (List.getElem_mem hi)
      rw [if_pos hlt, if_pos hlt, List.getD_eq_getElem?_getD, List.getElem?_map, List.getElem?_eq_getElem hi, Option.map_some, Option.map_some, Option.getD_some, Option.getD_some]
      exact h1
    · rw [if_neg hlt, if_neg hlt]; rfl
  have h2 := ht.2
  unfold grownW
  rw [hg] at hle ⊢
  exact IntWalk.wrap64_in _ (by omega)
theorem putBad_iff {t : TyD} {types : List TyD} {ms : List (Int × Int)} (hb : nodes t ≤ 1048576) (hbs : ∀ u ∈ types, nodes u ≤ 1048576) : putBad t types ms = false ↔ Fit t ∧ (∀ u ∈ types, Fit u) ∧ ∀ m ∈ ms, isB m.2 m.1 = true := by
  unfold putBad
  simp only [Bool.or_eq_false_iff, bne_eq_false_iff_eq, List.any_eq_false, Bool.not_eq_true, Bool.not_eq_false', fit_iff hb, and_assoc]
  refine and_congr_right fun _ => and_congr_left fun _ => ⟨fun h u hu => (fit_iff (hbs u hu)).1 (h u hu), fun h u hu => (fit_iff (hbs u hu)).2 (h u hu)⟩
theorem putE_iff {t : TyD} {types : List TyD} {ms : List (Int × Int)} (hb : nodes t ≤ 1048576) (hbs : ∀ u ∈ types, nodes u ≤ 1048576) :
    putE t types ms = 0 ↔ Fit t ∧ (∀ u ∈ types, Fit u) ∧ (∀ m ∈ ms, isB m.2 m.1 = true) ∧ nodes (turnT (putV types) (putM ms) t) ≤ 300 := by
  unfold putE
  cases h : putBad t types ms with
  | true =>
    refine ⟨fun e => by rw [if_pos rfl] at e; exact absurd e (by decide), fun e => ?_⟩
    rw [(putBad_iff hb hbs).2 ⟨e.1, e.2.1, e.2.2.1⟩] at h
    cases h
  | false =>
    obtain ⟨h1, h2, h3⟩ := (putBad_iff hb hbs).1 h
    rw [if_neg (by decide), grown_is (putM ms) h1 h2]
    by_cases hc : (300 : Int) < nodes (turnT (putV types) (putM ms) t)
    · rw [if_pos hc]
      exact ⟨fun e => absurd (show (3 : Int) = 0 from e) (by decide), fun e => by have := e.2.2.2; omega⟩
    · rw [if_neg hc]
      exact ⟨fun _ => ⟨h1, h2, h3, by omega⟩, fun _ => rfl⟩
theorem putT_of {t : TyD} {types : List TyD} {ms : List (Int × Int)} (h : putE t types ms = 0) : putT t types ms = turnT (putV types) (putM ms) t := by
  unfold putT
  rw [if_pos h]
theorem put_fit {t : TyD} {types : List TyD} {ms : List (Int × Int)} (hb : nodes t ≤ 1048576) (hbs : ∀ u ∈ types, nodes u ≤ 1048576) (h : putE t types ms = 0) : Fit (putT t types ms) := by
  obtain ⟨h1, h2, h3, h4⟩ := (putE_iff hb hbs).1 h
  rw [putT_of h]
  refine ⟨turn_may h1.1 (fun n hn u hu => ?_) (fun v hv => ?_), h4⟩
  · unfold putV at hu
    split at hu
    · exact (h2 u (List.mem_of_getElem? hu)).1
    · cases hu
  · have h0 := allM_nonneg h1.1 v hv
    have hown : isB 0 v = true := by
      simp [isB, oneB]
      omega
    unfold putM
    by_cases hlt : v < ms.length
    · rw [if_pos hlt, List.getD_eq_getElem?_getD, List.getElem?_eq_getElem (by omega)]
      exact h3 _ (List.getElem_mem _)
    · rw [if_neg hlt]; exact hown

/-- the types put with others put into them; those that cannot be stay -/
def putBoth (types other : List TyD) (more : List (Int × Int)) : List TyD := types.map fun u => if putE u other more = 0 then putT u other more else u
def putAll (mults more : List (Int × Int)) : List (Int × Int) := mults.map fun (m : Int × Int) => if m.2 = 0 ∧ m.1 < (more.length : Int) then more.getD m.1.toNat (0, 0) else m
theorem putM_all {mults more : List (Int × Int)} (hm : ∀ m ∈ mults, isB m.2 m.1 = true) {v : Int} (h0 : 0 ≤ v) (hv : v < mults.length) : putM (putAll mults more) v = if (putM mults v).2 = 0 then putM more (putM mults v).1 else putM mults v := by
  have hi : v.toNat < mults.length := by omega
  have e1 : putM mults v = mults[v.toNat] := by unfold putM; rw [if_pos hv, List.getD_eq_getElem?_getD, List.getElem?_eq_getElem hi]; rfl
  have hb := hm _ (List.getElem_mem hi)
  rw [e1]
  unfold putM putAll
  rw [List.length_map, if_pos hv, List.getD_eq_getElem?_getD, List.getElem?_map, List.getElem?_eq_getElem hi]
  generalize mults[v.toNat] = m at hb ⊢
  obtain ⟨a, c⟩ := m
  simp only [Option.map_some, Option.getD_some]
  by_cases hc : c = 0
  · subst hc
    rcases isB_cases hb with ⟨_, ha⟩ | ⟨_, h⟩
    · by_cases hl : a < more.length
      · simp only [hl, and_self, if_true]
        rw [List.getD_eq_getElem?_getD, List.getD_eq_getElem?_getD, List.getElem?_eq_getElem (by omega)]
        rfl
      · simp [hl]
    · omega
  · simp [hc]
theorem put_put {t : TyD} {types other : List TyD} {mults more : List (Int × Int)} (hb : nodes t ≤ 1048576) (hbs : ∀ u ∈ types, nodes u ≤ 1048576) (hbo : ∀ u ∈ other, nodes u ≤ 1048576)
    (hv : ∀ n ∈ allV t, n < types.length) (hm : ∀ v ∈ allM t, v < mults.length) (h1 : putE t types mults = 0) (h2 : putE (putT t types mults) other more = 0) :
    (∀ n ∈ allV t, ∀ u, types[n.toNat]? = some u → putE u other more = 0) ∧ putE t (putBoth types other more) (putAll mults more) = 0 ∧ putT t (putBoth types other more) (putAll mults more) = putT (putT t types mults) other more := by
  obtain ⟨a1, a2, a3, a4⟩ := (putE_iff hb hbs).1 h1
  have hx := put_fit hb hbs h1
  obtain ⟨b1, b2, b3, b4⟩ := (putE_iff (by have := hx.2; omega) hbo).1 h2
  have ex := putT_of h1
  have ey := putT_of h2
  rw [ex] at b4 ey
  have b4' := b4
  rw [turn_turn] at b4'
  have hsub : ∀ n ∈ allV t, ∀ u, types[n.toNat]? = some u → putE u other more = 0 := by
    intro n hn u hu
    have hfu := a2 u (List.mem_of_getElem? hu)
    refine (putE_iff (by have := hfu.2; omega) hbo).2 ⟨hfu, b2, b3, Nat.le_trans ?_ b4'⟩
    refine turn_sub a1.1 hn ?_
    have : putV types n = some u := by unfold putV; rw [if_pos (hv n hn), hu]
    rw [this]
  have hcong : turnT (putV (putBoth types other more)) (putM (putAll mults more)) t = turnT (putV other) (putM more) (turnT (putV types) (putM mults) t) := by
    rw [turn_turn]
    refine turn_congr a1.1 (fun n hn => ?_) (fun v hv' => putM_all a3 (allM_nonneg a1.1 v hv').1 (hm v hv'))
    have hi : n.toNat < types.length := by have := hv n hn; have := allV_nonneg a1.1 n hn; omega
    have e1 : putV types n = some types[n.toNat] := by unfold putV; rw [if_pos (hv n hn), List.getElem?_eq_getElem hi]
    have e2 : putV (putBoth types other more) n = some (turnT (putV other) (putM more) types[n.toNat]) := by
      have hs := hsub n hn _ (List.getElem?_eq_getElem hi)
      unfold putV putBoth
      rw [List.length_map, if_pos (hv n hn), List.getElem?_map, List.getElem?_eq_getElem hi]
      show some (if putE types[n.toNat] other more = 0 then putT types[n.toNat] other more else types[n.toNat]) = _
      rw [if_pos hs, putT_of hs]
      rfl
    rw [e1, e2]
  have hfb : ∀ u ∈ putBoth types other more, Fit u := by
    intro u hu
    obtain ⟨x, hx', rfl⟩ := List.mem_map.1 hu
    by_cases h : putE x other more = 0
    · rw [if_pos h]; exact put_fit (hbs x hx') hbo h
    · rw [if_neg h]; exact a2 x hx'
  have hfa : ∀ m ∈ putAll mults more, isB m.2 m.1 = true := by
    intro m hm'
    obtain ⟨x, hx', rfl⟩ := List.mem_map.1 hm'
    by_cases h : x.2 = 0 ∧ x.1 < more.length
    · rw [if_pos h, List.getD_eq_getElem?_getD]
      have hb0 := a3 x hx'
      rcases isB_cases hb0 with ⟨_, ha⟩ | ⟨_, hc⟩
      · rw [List.getElem?_eq_getElem (by omega)]
        exact b3 _ (List.getElem_mem _)
      · omega
    · rw [if_neg h]; exact a3 x hx'
  have h3 : putE t (putBoth types other more) (putAll mults more) = 0 := by
    refine (putE_iff hb (fun u hu => by have := (hfb u hu).2; omega)).2 ⟨a1, hfb, hfa, ?_⟩
    rw [hcong]
    exact b4
  refine ⟨hsub, h3, ?_⟩
  rw [putT_of h3, hcong, ex, ey]
end Go.Proofs.YtidamlkekgnhgaaDoor

/- Plain laws of ty.Canon: types whose variables are named anew. No program's function. -/
namespace Go.Proofs.YtidamlkekgnhgaaDoor
set_option linter.unusedVariables false
set_option linter.unusedSimpArgs false
open Go.RowKit

/-- a type with its variables named anew -/
def ren (f g : Int → Int) (t : TyD) : TyD := turnT (fun n => some (plainV (f n))) (fun v => (g v, 0)) t
theorem ren_eq (f g : Int → Int) (t : TyD) : ren f g t = if t.k = 1 then plainV (f t.n) else .mk t.k t.n (if t.k = 7 ∧ t.c = 0 then g t.v else t.v) (if t.k = 7 ∧ t.c = 0 then 0 else t.c) (t.l.map (ren f g)) := by
  unfold ren
  rw [turnT_eq]
  rfl
theorem turn_plain (fv : Int → Option TyD) (fm : Int → Int × Int) (n : Int) : turnT fv fm (plainV n) = (fv n).getD (plainV n) := by
  rw [turnT_eq, if_pos (show (plainV n).k = 1 from rfl)]
  rfl
theorem turn_ren (fv : Int → Option TyD) (fm : Int → Int × Int) (f g : Int → Int) (t : TyD) : turnT fv fm (ren f g t) = turnT (fun n => some ((fv (f n)).getD (plainV (f n)))) (fun v => fm (g v)) t := by
  unfold ren
  rw [turn_turn]
  have e : (fun n => match (fun n => some (plainV (f n))) n with
    | some u => some (turnT fv fm u)
    | none => fv n) = fun n => some ((fv (f n)).getD (plainV (f n))) := by
    funext n
    show some (turnT fv fm (plainV (f n))) = _
    rw [turn_plain]
  exact congrArg (fun F => turnT F (fun v => fm (g v)) t) e
theorem ren_ren (f g f' g' : Int → Int) (t : TyD) : ren f' g' (ren f g t) = ren (fun n => f' (f n)) (fun v => g' (g v)) t := by
  show turnT _ _ (ren f g t) = _
  rw [turn_ren]
  rfl
theorem ren_congr {f g f' g' : Int → Int} {t : TyD} (ht : mayT t = true) (hf : ∀ n ∈ allV t, f n = f' n) (hg : ∀ v ∈ allM t, g v = g' v) : ren f g t = ren f' g' t :=
  turn_congr ht (fun n hn => by rw [hf n hn]) fun v hv => by rw [hg v hv]
theorem ren_id {f g : Int → Int} {t : TyD} (ht : mayT t = true) (hf : ∀ n ∈ allV t, f n = n) (hg : ∀ v ∈ allM t, g v = v) : ren f g t = t :=
  turn_id ht (fun n hn => by rw [hf n hn]; rfl) fun v hv => by rw [hg v hv]
theorem ren_nodes (f g : Int → Int) {t : TyD} (ht : mayT t = true) : nodes (ren f g t) = nodes t := by
  revert ht
  induction t using ty_ind with
  | h t ih =>
    intro ht
    have fa := may_facts ht
    rw [ren_eq]
    by_cases hk : t.k = 1
    · rw [if_pos hk, nodes_eq t, may_leaf ht (by omega)]; rfl
    · rw [if_neg hk, nodes_eq t, nodes_eq (.mk _ _ _ _ _)]
      have := nodesL_map_congr (f := ren f g) (g := id) (l := t.l) (fun x hx => ih x hx (fa.2.2.2.2.2.2 x hx))
      rw [List.map_id] at this
      show 1 + nodes.nodesL (t.l.map (ren f g)) = _
      rw [this]
theorem allV_ren (f g : Int → Int) {t : TyD} (ht : mayT t = true) : allV (ren f g t) = (allV t).map f := by
  revert ht
  induction t using ty_ind with
  | h t ih =>
    intro ht
    have fa := may_facts ht
    rw [ren_eq, allV_eq t]
    by_cases hk : t.k = 1
    · rw [if_pos hk, if_pos hk, may_leaf ht (by omega)]; rfl
    · rw [if_neg hk, if_neg hk, allV_eq (.mk _ _ _ _ _), if_neg (by exact hk), List.nil_append, List.nil_append]
      show (t.l.map (ren f g)).flatMap allV = _
      rw [List.flatMap_map, List.map_flatMap]
      have key : ∀ l : List TyD, (∀ x ∈ l, x ∈ t.l) → l.flatMap (fun x => allV (ren f g x)) = l.flatMap fun x => (allV x).map f := by
        intro l
        induction l with
        | nil => intro _; rfl
        | cons x l ihl =>
          intro hl
          rw [List.flatMap_cons, List.flatMap_cons, ih x (hl x (by simp)) (fa.2.2.2.2.2.2 x (hl x (by simp))), ihl fun y hy => hl y (List.mem_cons_of_mem _ hy)]
      exact key t.l fun _ h => h
theorem allM_ren (f g : Int → Int) {t : TyD} (ht : mayT t = true) : allM (ren f g t) = (allM t).map g := by
  revert ht
  induction t using ty_ind with
  | h t ih =>
    intro ht
    have fa := may_facts ht
    by_cases hk : t.k = 1
    · rw [ren_eq, if_pos hk, allM_not (t := t) (by omega), may_leaf ht (by omega), allM_not (t := plainV (f t.n)) (by show (1 : Int) ≠ 7; decide)]; rfl
    · by_cases h7 : t.k = 7
      · obtain ⟨a, b, hl⟩ := may_fun ht h7
        have ha := ih a (by rw [hl]; simp) (fa.2.2.2.2.2.2 a (by rw [hl]; simp))
        have hb := ih b (by rw [hl]; simp) (fa.2.2.2.2.2.2 b (by rw [hl]; simp))
        rw [ren_eq, if_neg hk, allM_fun h7 hl, hl, allM_fun (t := .mk t.k t.n (if t.k = 7 ∧ t.c = 0 then g t.v else t.v) (if t.k = 7 ∧ t.c = 0 then 0 else t.c) (List.map (ren f g) [a, b])) (a := ren f g a) (b := ren f g b) h7 rfl, ha, hb]
        show _ ++ (if (if t.k = 7 ∧ t.c = 0 then 0 else t.c) = 0 then [if t.k = 7 ∧ t.c = 0 then g t.v else t.v] else []) ++ _ = _
        by_cases hc : t.c = 0
        · simp [h7, hc]
        · simp [h7, hc]
      · rw [allM_not h7, ren_eq, if_neg hk, allM_not (t := .mk t.k t.n _ _ _) h7]
        show (t.l.map (ren f g)).flatMap allM = _
        rw [List.flatMap_map, List.map_flatMap]
        have key : ∀ l : List TyD, (∀ x ∈ l, x ∈ t.l) → l.flatMap (fun x => allM (ren f g x)) = l.flatMap fun x => (allM x).map g := by
          intro l
          induction l with
          | nil => intro _; rfl
          | cons x l ihl =>
            intro hl
            rw [List.flatMap_cons, List.flatMap_cons, ih x (hl x (by simp)) (fa.2.2.2.2.2.2 x (hl x (by simp))), ihl fun y hy => hl y (List.mem_cons_of_mem _ hy)]
        exact key t.l fun _ h => h
theorem mem_vars {t : TyD} {n : Int} : n ∈ varsT t ↔ n ∈ allV t := by unfold varsT; rw [addAll_mem]; simp
theorem mem_mults {t : TyD} {n : Int} : n ∈ multsT t ↔ n ∈ allM t := by unfold multsT; rw [addAll_mem]; simp
theorem vars_nodup (t : TyD) : (varsT t).Nodup := addAll_nodup List.nodup_nil
theorem mults_nodup (t : TyD) : (multsT t).Nodup := addAll_nodup List.nodup_nil
theorem varsT_ren {f g : Int → Int} {t : TyD} (ht : mayT t = true) (hf : ∀ a ∈ allV t, ∀ b ∈ allV t, f a = f b → a = b) : varsT (ren f g t) = (varsT t).map f := by
  unfold varsT
  rw [allV_ren f g ht]
  exact addAll_map (h := f) (S := fun n => n ∈ allV t) (fun a b ha hb => hf a ha b hb) (allV t) [] (fun _ h => h) (by simp)
theorem multsT_ren {f g : Int → Int} {t : TyD} (ht : mayT t = true) (hg : ∀ a ∈ allM t, ∀ b ∈ allM t, g a = g b → a = b) : multsT (ren f g t) = (multsT t).map g := by
  unfold multsT
  rw [allM_ren f g ht]
  exact addAll_map (h := g) (S := fun n => n ∈ allM t) (fun a b ha hb => hg a ha b hb) (allM t) [] (fun _ h => h) (by simp)
/-- what Canon tells -/
def canT (t : TyD) : TyD := ren (idxN (varsT t)) (idxN (multsT t)) t
theorem idx_v {t : TyD} : ∀ a ∈ allV t, ∀ b ∈ allV t, idxN (varsT t) a = idxN (varsT t) b → a = b := fun a ha b hb => idxN_inj (mem_vars.2 ha) (mem_vars.2 hb)
theorem idx_m {t : TyD} : ∀ a ∈ allM t, ∀ b ∈ allM t, idxN (multsT t) a = idxN (multsT t) b → a = b := fun a ha b hb => idxN_inj (mem_mults.2 ha) (mem_mults.2 hb)
theorem canT_vars {t : TyD} (ht : mayT t = true) : varsT (canT t) = (List.range (varsT t).length).map (fun i : Nat => (i : Int)) := by
  unfold canT
  rw [varsT_ren ht idx_v, idx_range (vars_nodup t)]
theorem canT_mults {t : TyD} (ht : mayT t = true) : multsT (canT t) = (List.range (multsT t).length).map (fun i : Nat => (i : Int)) := by
  unfold canT
  rw [multsT_ren ht idx_m, idx_range (mults_nodup t)]
/-- a renaming that tells variables apart counts for nothing -/
theorem canT_ren {f g : Int → Int} {t : TyD} (ht : mayT t = true) (hf : ∀ a ∈ allV t, ∀ b ∈ allV t, f a = f b → a = b) (hg : ∀ a ∈ allM t, ∀ b ∈ allM t, g a = g b → a = b) : canT (ren f g t) = canT t := by
  show ren _ _ (ren f g t) = _
  rw [ren_ren, varsT_ren ht hf, multsT_ren ht hg]
  refine ren_congr ht (fun n hn => ?_) fun v hv => ?_
  · exact idxN_map (S := fun n => n ∈ allV t) (fun a b ha hb => hf a ha b hb) (fun x hx => mem_vars.1 hx) (mem_vars.2 hn) (vars_nodup t)
  · exact idxN_map (S := fun n => n ∈ allM t) (fun a b ha hb => hg a ha b hb) (fun x hx => mem_mults.1 hx) (mem_mults.2 hv) (mults_nodup t)
theorem canT_canT {t : TyD} (ht : mayT t = true) : canT (canT t) = canT t := canT_ren ht idx_v idx_m
theorem vars_len {t : TyD} : (varsT t).length ≤ (allV t).length := by have := addAll_len (allV t) []; unfold varsT; simpa using this
theorem mults_len {t : TyD} : (multsT t).length ≤ (allM t).length := by have := addAll_len (allM t) []; unfold multsT; simpa using this
theorem few_nat : ∀ (N : Nat) (l : List Nat), l.Nodup → (∀ x ∈ l, x < N) → l.length ≤ N := by
  intro N
  induction N with
  | zero =>
    intro l _ h
    cases l with
    | nil => simp
    | cons x l => exact absurd (h x (by simp)) (by omega)
  | succ N ih =>
    intro l hd h
    by_cases hm : N ∈ l
    · have h1 := ih (l.erase N) (hd.erase N) (fun x hx => by
        have h2 := (hd.mem_erase_iff).1 hx
        have := h x h2.2
        have := h2.1
        omega)
      rw [List.length_erase_of_mem hm] at h1
      omega
    · have := ih l hd (fun x hx => by
        have := h x hx
        have : x ≠ N := fun e => hm (by rw [← e]; exact hx)
        omega)
      omega
theorem few_int {N : Nat} {l : List Int} (hd : l.Nodup) (h : ∀ x ∈ l, 0 ≤ x ∧ x < (N : Int)) : l.length ≤ N := by
  have h1 := few_nat N (l.map Int.toNat) (by
    unfold List.Nodup at hd ⊢
    rw [List.pairwise_map]
    exact hd.imp_of_mem fun ha hb hne e => hne (by have := h _ ha; have := h _ hb; omega)) (fun x hx => by
      obtain ⟨y, hy, rfl⟩ := List.mem_map.1 hx
      have := h y hy
      omega)
  simpa using h1
theorem vars_few {t : TyD} (ht : mayT t = true) : (varsT t).length ≤ 1048576 := few_int (vars_nodup t) fun x hx => allV_nonneg ht x (mem_vars.1 hx)
theorem mults_few {t : TyD} (ht : mayT t = true) : (multsT t).length ≤ 1048576 := few_int (mults_nodup t) fun x hx => allM_nonneg ht x (mem_mults.1 hx)
theorem idxN_rng {l : List Int} {n : Int} (h : n ∈ l) : 0 ≤ idxN l n ∧ idxN l n < l.length ∧ ∃ h : (idxN l n).toNat < l.length, l[(idxN l n).toNat] = n := by
  obtain ⟨i, hi, e, e2⟩ := idxN_mem h
  rw [e]
  exact ⟨by omega, by omega, by simpa using hi, by simpa using e2⟩
theorem ren_fit {f g : Int → Int} {t : TyD} (ht : Fit t) (hf : ∀ n ∈ allV t, 0 ≤ f n ∧ f n < 1048576) (hg : ∀ v ∈ allM t, 0 ≤ g v ∧ g v < 1048576) : Fit (ren f g t) := by
  refine ⟨turn_may ht.1 (fun n hn u hu => ?_) (fun v hv => ?_), by rw [ren_nodes f g ht.1]; exact ht.2⟩
  · injection hu with hu
    subst hu
    have := hf n hn
    exact may_mk (by decide) (by decide) this.1 (by have : mostI 1 = 1048576 := rfl; omega) (fun _ => rfl) (by simp) (.inl ⟨rfl, rfl⟩) (by simp)
  · have := hg v hv
    simp [isB, oneB]
    omega
theorem plain_fit {n : Int} (h : 0 ≤ n ∧ n < 1048576) : Fit (plainV n) :=
  ⟨may_mk (by decide) (by decide) h.1 (by have : mostI 1 = 1048576 := rfl; omega) (fun _ => rfl) (by simp) (.inl ⟨rfl, rfl⟩) (by simp), by rw [nodes_eq]; show 1 + nodes.nodesL [] ≤ 300; rw [nodes.nodesL]; omega⟩
theorem canT_fit {t : TyD} (ht : Fit t) : Fit (canT t) := by
  have h1 := @allV_len t ht.1
  have h2 := @allM_len t ht.1
  have h3 := @vars_len t
  have h4 := @mults_len t
  have h5 := ht.2
  exact ren_fit ht (fun n hn => by have := idxN_rng (mem_vars.2 hn); omega) fun v hv => by have := idxN_rng (mem_mults.2 hv); omega
/-- what comes of the canon with these put into it -/
def bk (s : Int) (n : Int) : Int := (n + s) % 1048576
theorem bk_rng (s n : Int) : 0 ≤ bk s n ∧ bk s n < 1048576 := by unfold bk; omega
theorem bk_inj {s a b : Int} (ha : 0 ≤ a ∧ a < 1048576) (hb : 0 ≤ b ∧ b < 1048576) (h : bk s a = bk s b) : a = b := by unfold bk at h; omega
theorem back_put {t : TyD} (ht : Fit t) (s : Int) : putE (canT t) ((varsT t).map fun n => plainV (bk s n)) ((multsT t).map fun v => (bk s v, 0)) = 0 ∧
    putT (canT t) ((varsT t).map fun n => plainV (bk s n)) ((multsT t).map fun v => (bk s v, 0)) = ren (bk s) (bk s) t := by
  have hc := canT_fit ht
  have hfs : ∀ u ∈ (varsT t).map (fun n => plainV (bk s n)), Fit u := by
    intro u hu
    obtain ⟨n, hn, rfl⟩ := List.mem_map.1 hu
    exact plain_fit (bk_rng s n)
  have e : turnT (putV ((varsT t).map fun n => plainV (bk s n))) (putM ((multsT t).map fun v => (bk s v, 0))) (canT t) = ren (bk s) (bk s) t := by
    unfold canT
    rw [turn_ren]
    refine turn_congr ht.1 (fun n hn => ?_) (fun v hv => ?_)
    · obtain ⟨i0, i1, i2, i3⟩ := idxN_rng (mem_vars.2 hn)
      have : putV ((varsT t).map fun n => plainV (bk s n)) (idxN (varsT t) n) = some (plainV (bk s n)) := by
        unfold putV
        rw [List.length_map, if_pos i1, List.getElem?_map, List.getElem?_eq_getElem i2, i3]
        rfl
      rw [this]; rfl
    · obtain ⟨i0, i1, i2, i3⟩ := idxN_rng (mem_mults.2 hv)
      unfold putM
      rw [List.length_map, if_pos i1, List.getD_eq_getElem?_getD, List.getElem?_map, List.getElem?_eq_getElem i2, i3]
      rfl
  have h0 : putE (canT t) ((varsT t).map fun n => plainV (bk s n)) ((multsT t).map fun v => (bk s v, 0)) = 0 := by
    refine (putE_iff (by have := hc.2; omega) (fun u hu => by have := (hfs u hu).2; omega)).2 ⟨hc, hfs, fun m hm => ?_, ?_⟩
    · obtain ⟨v, hv, rfl⟩ := List.mem_map.1 hm
      have := bk_rng s v
      simp [isB, oneB]
      omega
    · rw [e, ren_nodes _ _ ht.1]; exact ht.2
  exact ⟨h0, by rw [putT_of h0, e]⟩
theorem back_id {t : TyD} (ht : Fit t) : ren (bk 0) (bk 0) t = t :=
  ren_id ht.1 (fun n hn => by have := allV_nonneg ht.1 n hn; unfold bk; omega) fun v hv => by have := allM_nonneg ht.1 v hv; unfold bk; omega
theorem back_can {t : TyD} (ht : Fit t) (s : Int) : canT (ren (bk s) (bk s) t) = canT t :=
  canT_ren ht.1 (fun a ha b hb => bk_inj (allV_nonneg ht.1 a ha) (allV_nonneg ht.1 b hb)) fun a ha b hb => bk_inj (allM_nonneg ht.1 a ha) (allM_nonneg ht.1 b hb)
/-! ### the same where sizes wrap -/
theorem ren_may {f g : Int → Int} {t : TyD} (ht : mayT t = true) (hf : ∀ n ∈ allV t, 0 ≤ f n ∧ f n < 1048576) (hg : ∀ v ∈ allM t, 0 ≤ g v ∧ g v < 1048576) : mayT (ren f g t) = true := by
  refine turn_may ht (fun n hn u hu => ?_) (fun v hv => ?_)
  · injection hu with hu
    subst hu
    have := hf n hn
    exact may_mk (by decide) (by decide) this.1 (by have : mostI 1 = 1048576 := rfl; omega) (fun _ => rfl) (by simp) (.inl ⟨rfl, rfl⟩) (by simp)
  · have := hg v hv
    simp [isB, oneB]
    omega
theorem ren_size (f g : Int → Int) {t : TyD} (ht : mayT t = true) : sizeW (ren f g t) = sizeW t := by unfold sizeW; rw [ren_nodes f g ht]
theorem ren_mayTE {f g : Int → Int} {t : TyD} (ht : mayTE t = 0) (hf : ∀ n ∈ allV t, 0 ≤ f n ∧ f n < 1048576) (hg : ∀ v ∈ allM t, 0 ≤ g v ∧ g v < 1048576) : mayTE (ren f g t) = 0 := by
  obtain ⟨h1, h2⟩ := mayTE_facts ht
  unfold mayTE
  rw [ren_size f g h1, if_neg (by omega), if_pos (ren_may h1 hf hg)]
theorem canT_mayTE {t : TyD} (ht : mayTE t = 0) : mayTE (canT t) = 0 := by
  have h1 := (mayTE_facts ht).1
  have h3 := vars_few h1
  have h4 := mults_few h1
  exact ren_mayTE ht (fun n hn => by have := idxN_rng (mem_vars.2 hn); omega) fun v hv => by have := idxN_rng (mem_mults.2 hv); omega
theorem plain_mayTE {n : Int} (h : 0 ≤ n ∧ n < 1048576) : mayTE (plainV n) = 0 := mayTE_ok (plain_fit h).1 (plain_fit h).2
theorem plain_size (n : Int) : sizeW (plainV n) = 1 := by
  have : nodes (plainV n) = 1 := by rw [nodes_eq]; show 1 + nodes.nodesL [] = 1; rw [nodes.nodesL]
  unfold sizeW
  rw [this]
  decide +kernel
theorem back_putW {t : TyD} (ht : mayTE t = 0) (s : Int) : putE (canT t) ((varsT t).map fun n => plainV (bk s n)) ((multsT t).map fun v => (bk s v, 0)) = 0 ∧
    putT (canT t) ((varsT t).map fun n => plainV (bk s n)) ((multsT t).map fun v => (bk s v, 0)) = ren (bk s) (bk s) t := by
  obtain ⟨h1, h2⟩ := mayTE_facts ht
  have hc := canT_mayTE ht
  have hc1 := (mayTE_facts hc).1
  have e : turnT (putV ((varsT t).map fun n => plainV (bk s n))) (putM ((multsT t).map fun v => (bk s v, 0))) (canT t) = ren (bk s) (bk s) t := by
    unfold canT
    rw [turn_ren]
    refine turn_congr h1 (fun n hn => ?_) (fun v hv => ?_)
    · obtain ⟨i0, i1, i2, i3⟩ := idxN_rng (mem_vars.2 hn)
      have : putV ((varsT t).map fun n => plainV (bk s n)) (idxN (varsT t) n) = some (plainV (bk s n)) := by
        unfold putV
        rw [List.length_map, if_pos i1, List.getElem?_map, List.getElem?_eq_getElem i2, i3]
        rfl
      rw [this]; rfl
    · obtain ⟨i0, i1, i2, i3⟩ := idxN_rng (mem_mults.2 hv)
      unfold putM
      rw [List.length_map, if_pos i1, List.getD_eq_getElem?_getD, List.getElem?_map, List.getElem?_eq_getElem i2, i3]
      rfl
  have hg : grownW (((varsT t).map fun n => plainV (bk s n)).map sizeW) (canT t) = sizeW t := by
    have hgn : grownN (((varsT t).map fun n => plainV (bk s n)).map sizeW) (canT t) = nodes (turnT (putV ((varsT t).map fun n => plainV (bk s n))) (putM ((multsT t).map fun v => (bk s v, 0))) (canT t)) := by
      refine grown_nodes (fun n hn => (allV_nonneg hc1 n hn).1) (fun n hn => ?_) hc1
      have h0 := (allV_nonneg hc1 n hn).1
      rw [List.length_map, List.length_map]
      unfold putV
      rw [List.length_map]
      by_cases hlt : n < (varsT t).length
      · have hi : n.toNat < (varsT t).length := by omega
        rw [if_pos hlt, if_pos hlt, List.getD_eq_getElem?_getD, List.getElem?_map, List.getElem?_map, List.getElem?_eq_getElem hi, Option.map_some, Option.map_some, Option.getD_some, plain_size, Option.map_some, Option.getD_some]
        have : nodes (plainV (bk s (varsT t)[n.toNat])) = 1 := by rw [nodes_eq]; show 1 + nodes.nodesL [] = 1; rw [nodes.nodesL]
        rw [this]; rfl
      · rw [if_neg hlt, if_neg hlt]; rfl
    unfold grownW
    rw [hgn, e, ren_nodes _ _ h1]
    rfl
  have hbad : putBad (canT t) ((varsT t).map fun n => plainV (bk s n)) ((multsT t).map fun v => (bk s v, 0)) = false := by
    unfold putBad
    simp only [Bool.or_eq_false_iff, bne_eq_false_iff_eq, List.any_eq_false, Bool.not_eq_true, Bool.not_eq_false', and_assoc]
    refine ⟨hc, fun u hu => ?_, fun m hm => ?_⟩
    · obtain ⟨n, hn, rfl⟩ := List.mem_map.1 hu
      exact plain_mayTE (bk_rng s n)
    · obtain ⟨v, hv, rfl⟩ := List.mem_map.1 hm
      have := bk_rng s v
      simp [isB, oneB]
      omega
  have h0 : putE (canT t) ((varsT t).map fun n => plainV (bk s n)) ((multsT t).map fun v => (bk s v, 0)) = 0 := by
    unfold putE
    rw [hbad, hg, if_neg (by decide), if_neg (by omega)]
  exact ⟨h0, by rw [putT_of h0, e]⟩
theorem back_idW {t : TyD} (ht : mayT t = true) : ren (bk 0) (bk 0) t = t :=
  ren_id ht (fun n hn => by have := allV_nonneg ht n hn; unfold bk; omega) fun v hv => by have := allM_nonneg ht v hv; unfold bk; omega
theorem back_canW {t : TyD} (ht : mayT t = true) (s : Int) : canT (ren (bk s) (bk s) t) = canT t :=
  canT_ren ht (fun a ha b hb => bk_inj (allV_nonneg ht a ha) (allV_nonneg ht b hb)) fun a ha b hb => bk_inj (allM_nonneg ht a ha) (allM_nonneg ht b hb)
end Go.Proofs.YtidamlkekgnhgaaDoor

/- The contract of ty.Canon. -/
namespace Go.Proofs.YtidamlkekgnhgaaDoor
set_option linter.unusedVariables false
set_option linter.unusedSimpArgs false
open Go.RowKit

set_option maxRecDepth 100000 in
set_option maxHeartbeats 8000000 in
theorem turnC (fv : Int → Option TyD) (fm : Int → Int × Int) (p1 p2 : Nat) (N : Nat) : ∀ (t : TyD), nodes t ≤ N → mayT t = true → ∀ (A : Option Addr) (m cp : Nat) (w : World), TysV w w.heap.size A m cp t.l →
    (∀ (n : Int) (w' : World), 0 ≤ n → Below w.heap.size w w' → Calls Tryd.prog 63 (#[.int .i64 n] ++ #[.pointer (some ⟨p1, 0, none⟩)]) w' (VPost fv n w')) →
    (∀ (n : Int) (w' : World), 0 ≤ n → Below w.heap.size w w' → Calls Tryd.prog 64 (#[.int .i64 n] ++ #[.pointer (some ⟨p2, 0, none⟩)]) w' fun e w'' => e = .returned (.agg #[.int .i64 (fm n).1, .int .u8 (fm n).2]) ∧ Below w'.heap.size w' w'') →
    Calls Tryd.prog 58 #[.agg #[.int .u8 t.k, .int .i64 t.n, .int .i64 t.v, .int .u8 t.c, .slice A m cp], .func (.func 63) #[] #[.pointer (some ⟨p1, 0, none⟩)], .func (.func 64) #[] #[.pointer (some ⟨p2, 0, none⟩)]] w (FreshT (turnT fv fm t) w) := by
  induction N with
  | zero => intro t hN; exact absurd hN (by rw [nodes_eq t]; omega)
  | succ N ih =>
    intro t hN hm A m cp w hl hv hmu
    have Ih := Lib.hid ih
    clear ih
    have hlen := hl.len
    have m4 : m ≤ 4 := by rw [← hlen]; exact mayT_len hm
    have hbx : Below w.heap.size w ((w.alloc (Obj.cells #[.int .u8 t.k, .int .i64 t.n, .int .i64 t.v, .int .u8 t.c, .slice A m cp] 27)).alloc (Obj.cells #[.int .u8 0, .int .i64 0, .int .i64 0, .int .u8 0, .slice none 0 0] 27)) := ((Below.refl _ _).alloc (Nat.le_refl _) _).alloc (by simp) _
    have hz := (blk_new w #[.int .u8 t.k, .int .i64 t.n, .int .i64 t.v, .int .u8 t.c, .slice A m cp] 27).alloc (Obj.cells #[.int .u8 0, .int .i64 0, .int .i64 0, .int .u8 0, .slice none 0 0] 27)
    have hy := blk_new (w.alloc (Obj.cells #[.int .u8 t.k, .int .i64 t.n, .int .i64 t.v, .int .u8 t.c, .slice A m cp] 27)) #[.int .u8 0, .int .i64 0, .int .i64 0, .int .u8 0, .slice none 0 0] 27
    rw [World.size_alloc] at hy
    obtain ⟨W, hW⟩ : ∃ W, (w.alloc (Obj.cells #[.int .u8 t.k, .int .i64 t.n, .int .i64 t.v, .int .u8 t.c, .slice A m cp] 27)).alloc (Obj.cells #[.int .u8 0, .int .i64 0, .int .i64 0, .int .u8 0, .slice none 0 0] 27) = W := ⟨_, rfl⟩
    rw [hW] at hbx hz hy
    have HL := Lib.hid ((hl.below hbx).more hbx.size)
    have HL0 := Lib.hid (hl.below hbx)
    have HW := Lib.hid hW
    have Hbx := Lib.hid hbx
    have Hz := Lib.hid hz
    have Hy := Lib.hid hy
    have HM := Lib.hid hm
    have HV := Lib.hid hv
    have HMu := Lib.hid hmu
    have HN : Hid (∀ i (h : i < t.l.length), nodes t.l[i] ≤ N) := Lib.hid fun i h => by have := nodes_get h; omega
    have z0 := hz.cell 0
    have z1 := hz.cell 1
    have z2 := hz.cell 2
    have z3 := hz.cell 3
    have z4 := hz.cell 4
    have hU := turnT_eq fv fm t
    have HU0 := Lib.hid hU
    clear hl hbx hz hy hW hN hm hv hmu hU
    by_cases hk : t.k = 1
    · have e70 := trivial
      clear e70
      have d1 : (t.k == 1) = true := by simp [hk]
      have hn0 := mayT_n HM.out
      have hleaf := mayT_leaf HM.out hk
      have hq := HV.out t.n W hn0 Hbx.out
      have Hq := Lib.hid hq
      have HU1 : Hid (turnT fv fm t = (fv t.n).getD t) := Lib.hid (by rw [HU0.out, if_pos hk])
      have Hleaf := Lib.hid hleaf
      clear hk hq hleaf HU0
      go_enter Tryd.func58, Tryd.ntmps58
      go_wp2_with fail
      rw [HW.out]
      refine Hq.out.mono ?_; rintro e w3 ⟨x, A3, m3, c3, b, rfl, hx3, hfv, hb3⟩
      obtain ⟨g2, hg2⟩ : ∃ g2, w.heap.size + 1 = g2 := ⟨_, rfl⟩
      have hg2w : w.heap.size ≤ g2 := by omega
      have hWs : w.heap.size + 1 < W.heap.size := Hy.out.lt
      have hb0 : Below w.heap.size w w3 := Hbx.out.trans (hb3.mono Hbx.out.size)
      cases b with
      | true =>
        have HU : Hid (turnT fv fm t = x) := Lib.hid (by rw [HU1.out, hfv]; rfl)
        have hbB := below_box (w := w3) (Obj.cells #[.int .u8 x.k, .int .i64 x.n, .int .i64 x.v, .int .u8 x.c, .slice A3 m3 c3] 27)
        have hx4 := blk_new w3 #[.int .u8 x.k, .int .i64 x.n, .int .i64 x.v, .int .u8 x.c, .slice A3 m3 c3] 27
        have hy4 := (Hy.out.below hb3 Hy.out.lt).below hbB (Hy.out.below hb3 Hy.out.lt).lt
        have hb4 := hb0.trans (hbB.mono hb0.size)
        have hT4 : TysS (w3.alloc (Obj.cells #[.int .u8 x.k, .int .i64 x.n, .int .i64 x.v, .int .u8 x.c, .slice A3 m3 c3] 27)) (fun q => w.heap.size ≤ q ∧ q < (w3.alloc (Obj.cells #[.int .u8 x.k, .int .i64 x.n, .int .i64 x.v, .int .u8 x.c, .slice A3 m3 c3] 27)).heap.size ∧ q ≠ g2) A3 m3 c3 x.l :=
          hx3.keep (fun q hq => ⟨by omega, by have := hbB.size; omega, by omega⟩) fun p hp => hbB.cell hp.2
        rw [hg2] at hy4 ⊢
        have s0 := hy4.frozen 0
        have s1 := hy4.frozen 1
        have s2 := hy4.frozen 2
        have s3 := hy4.frozen 3
        have s4 := hy4.frozen 4
        have r0 := hy4.cell 0
        have r1 := hy4.cell 1
        have r2 := hy4.cell 2
        have r3 := hy4.cell 3
        have r4 := hy4.cell 4
        have Hy4 := Lib.hid hy4
        have Hb4 := Lib.hid hb4
        have HT4 := Lib.hid hT4
        clear z0 z1 z2 z3 z4 hx3 hb3 hfv hbB hx4 hy4 hb4 hT4 hb0 HL HW Hbx Hz Hy HV HMu Hq HU1 hWs hg2
        go_wp2_with fail
        have hs : Blk ((((((w3.alloc (Obj.cells #[.int .u8 x.k, .int .i64 x.n, .int .i64 x.v, .int .u8 x.c, .slice A3 m3 c3] 27)).setCell ⟨g2, 0, none⟩ (.int .u8 x.k)).setCell ⟨g2, 1, none⟩ (.int .i64 x.n)).setCell ⟨g2, 2, none⟩ (.int .i64 x.v)).setCell ⟨g2, 3, none⟩ (.int .u8 x.c)).setCell ⟨g2, 4, none⟩ (.slice A3 m3 c3)) g2 27 #[.int .u8 x.k, .int .i64 x.n, .int .i64 x.v, .int .u8 x.c, .slice A3 m3 c3] :=
          ((((Hy4.out.set_ 0 (.int .u8 x.k)).set_ 1 (.int .i64 x.n)).set_ 2 (.int .i64 x.v)).set_ 3 (.int .u8 x.c)).set_ 4 (.slice A3 m3 c3)
        have hb9 := ((((Hb4.out.setCell (p := ⟨g2, 0, none⟩) hg2w (.int .u8 x.k)).setCell (p := ⟨g2, 1, none⟩) hg2w (.int .i64 x.n)).setCell (p := ⟨g2, 2, none⟩) hg2w (.int .i64 x.v)).setCell (p := ⟨g2, 3, none⟩) hg2w (.int .u8 x.c)).setCell (p := ⟨g2, 4, none⟩) hg2w (.slice A3 m3 c3)
        have hr9 : ∀ (l : List TyD) (A : Option Addr) (m c : Nat), TysS (w3.alloc (Obj.cells #[.int .u8 x.k, .int .i64 x.n, .int .i64 x.v, .int .u8 x.c, .slice A3 m3 c3] 27)) (fun q => w.heap.size ≤ q ∧ q < (w3.alloc (Obj.cells #[.int .u8 x.k, .int .i64 x.n, .int .i64 x.v, .int .u8 x.c, .slice A3 m3 c3] 27)).heap.size ∧ q ≠ g2) A m c l → TysS ((((((w3.alloc (Obj.cells #[.int .u8 x.k, .int .i64 x.n, .int .i64 x.v, .int .u8 x.c, .slice A3 m3 c3] 27)).setCell ⟨g2, 0, none⟩ (.int .u8 x.k)).setCell ⟨g2, 1, none⟩ (.int .i64 x.n)).setCell ⟨g2, 2, none⟩ (.int .i64 x.v)).setCell ⟨g2, 3, none⟩ (.int .u8 x.c)).setCell ⟨g2, 4, none⟩ (.slice A3 m3 c3)) (fun b => w.heap.size ≤ b ∧ b < ((((((w3.alloc (Obj.cells #[.int .u8 x.k, .int .i64 x.n, .int .i64 x.v, .int .u8 x.c, .slice A3 m3 c3] 27)).setCell ⟨g2, 0, none⟩ (.int .u8 x.k)).setCell ⟨g2, 1, none⟩ (.int .i64 x.n)).setCell ⟨g2, 2, none⟩ (.int .i64 x.v)).setCell ⟨g2, 3, none⟩ (.int .u8 x.c)).setCell ⟨g2, 4, none⟩ (.slice A3 m3 c3)).heap.size) A m c l := by
          intro l A m c h
          refine h.keep (fun b hb => ⟨hb.1, by simpa using hb.2.1⟩) fun p hp => ?_
          have c1 : ∀ (W' : World) (o : Nat) (u : Value), (W'.setCell ⟨g2, o, none⟩ u).cell? p = W'.cell? p := fun W' o u => World.cell?_setCell_other _ _ _ _ (fun e => hp.2.2 (by rw [← e]))
          rw [c1, c1, c1, c1, c1]
        replace hr9 := hr9 _ _ _ _ HT4.out
        generalize ((((((w3.alloc (Obj.cells #[.int .u8 x.k, .int .i64 x.n, .int .i64 x.v, .int .u8 x.c, .slice A3 m3 c3] 27)).setCell ⟨g2, 0, none⟩ (.int .u8 x.k)).setCell ⟨g2, 1, none⟩ (.int .i64 x.n)).setCell ⟨g2, 2, none⟩ (.int .i64 x.v)).setCell ⟨g2, 3, none⟩ (.int .u8 x.c)).setCell ⟨g2, 4, none⟩ (.slice A3 m3 c3)) = W6 at hs hb9 hr9 ⊢
        have d0' : W6.cell? ⟨g2, 0, none⟩ = some (.int .u8 x.k) := hs.cell 0
        have d1' : W6.cell? ⟨g2, 1, none⟩ = some (.int .i64 x.n) := hs.cell 1
        have d2' : W6.cell? ⟨g2, 2, none⟩ = some (.int .i64 x.v) := hs.cell 2
        have d3' : W6.cell? ⟨g2, 3, none⟩ = some (.int .u8 x.c) := hs.cell 3
        have d4' : W6.cell? ⟨g2, 4, none⟩ = some (.slice A3 m3 c3) := hs.cell 4
        exact bodyPost_ret (v := .agg #[.int .u8 x.k, .int .i64 x.n, .int .i64 x.v, .int .u8 x.c, .slice A3 m3 c3]) (by simp [results, Tryd.results58, go_sem, d0', d1', d2', d3', d4']) rfl (by rw [HU.out]; exact ⟨_, _, _, rfl, hr9, hb9⟩)
      | false =>
        have HU : Hid (turnT fv fm t = t) := Lib.hid (by rw [HU1.out, hfv]; rfl)
        have hbB := below_box (w := w3) (Obj.cells #[.int .u8 x.k, .int .i64 x.n, .int .i64 x.v, .int .u8 x.c, .slice A3 m3 c3] 27)
        have hz4 := (Hz.out.below hb3 Hz.out.lt).below hbB (Hz.out.below hb3 Hz.out.lt).lt
        have hy4 := (Hy.out.below hb3 Hy.out.lt).below hbB (Hy.out.below hb3 Hy.out.lt).lt
        have hb4 := hb0.trans (hbB.mono hb0.size)
        have hT4 : TysS (w3.alloc (Obj.cells #[.int .u8 x.k, .int .i64 x.n, .int .i64 x.v, .int .u8 x.c, .slice A3 m3 c3] 27)) (fun q => w.heap.size ≤ q ∧ q < (w3.alloc (Obj.cells #[.int .u8 x.k, .int .i64 x.n, .int .i64 x.v, .int .u8 x.c, .slice A3 m3 c3] 27)).heap.size ∧ q ≠ g2) A m cp t.l := by
          have h0 : m = 0 := by rw [← hlen, Hleaf.out]; rfl
          have hL := HL.out
          exact ⟨hL.1, hL.2.1, hL.2.2.1, fun h => absurd h (by omega)⟩
        rw [hg2] at hy4 ⊢
        have q0 := hz4.cell 0
        have q1 := hz4.cell 1
        have q2 := hz4.cell 2
        have q3 := hz4.cell 3
        have q4 := hz4.cell 4
        have s0 := hy4.frozen 0
        have s1 := hy4.frozen 1
        have s2 := hy4.frozen 2
        have s3 := hy4.frozen 3
        have s4 := hy4.frozen 4
        have r0 := hy4.cell 0
        have r1 := hy4.cell 1
        have r2 := hy4.cell 2
        have r3 := hy4.cell 3
        have r4 := hy4.cell 4
        have Hy4 := Lib.hid hy4
        have Hb4 := Lib.hid hb4
        have HT4 := Lib.hid hT4
        clear z0 z1 z2 z3 z4 hx3 hb3 hfv hbB hy4 hz4 hb4 hT4 hb0 HL HW Hbx Hz Hy HV HMu Hq HU1 hWs hg2
        go_wp2_with fail
        have hs : Blk ((((((w3.alloc (Obj.cells #[.int .u8 x.k, .int .i64 x.n, .int .i64 x.v, .int .u8 x.c, .slice A3 m3 c3] 27)).setCell ⟨g2, 0, none⟩ (.int .u8 t.k)).setCell ⟨g2, 1, none⟩ (.int .i64 t.n)).setCell ⟨g2, 2, none⟩ (.int .i64 t.v)).setCell ⟨g2, 3, none⟩ (.int .u8 t.c)).setCell ⟨g2, 4, none⟩ (.slice A m cp)) g2 27 #[.int .u8 t.k, .int .i64 t.n, .int .i64 t.v, .int .u8 t.c, .slice A m cp] :=
          ((((Hy4.out.set_ 0 (.int .u8 t.k)).set_ 1 (.int .i64 t.n)).set_ 2 (.int .i64 t.v)).set_ 3 (.int .u8 t.c)).set_ 4 (.slice A m cp)
        have hb9 := ((((Hb4.out.setCell (p := ⟨g2, 0, none⟩) hg2w (.int .u8 t.k)).setCell (p := ⟨g2, 1, none⟩) hg2w (.int .i64 t.n)).setCell (p := ⟨g2, 2, none⟩) hg2w (.int .i64 t.v)).setCell (p := ⟨g2, 3, none⟩) hg2w (.int .u8 t.c)).setCell (p := ⟨g2, 4, none⟩) hg2w (.slice A m cp)
        have hr9 : ∀ (l : List TyD) (A : Option Addr) (m c : Nat), TysS (w3.alloc (Obj.cells #[.int .u8 x.k, .int .i64 x.n, .int .i64 x.v, .int .u8 x.c, .slice A3 m3 c3] 27)) (fun q => w.heap.size ≤ q ∧ q < (w3.alloc (Obj.cells #[.int .u8 x.k, .int .i64 x.n, .int .i64 x.v, .int .u8 x.c, .slice A3 m3 c3] 27)).heap.size ∧ q ≠ g2) A m c l → TysS ((((((w3.alloc (Obj.cells #[.int .u8 x.k, .int .i64 x.n, .int .i64 x.v, .int .u8 x.c, .slice A3 m3 c3] 27)).setCell ⟨g2, 0, none⟩ (.int .u8 t.k)).setCell ⟨g2, 1, none⟩ (.int .i64 t.n)).setCell ⟨g2, 2, none⟩ (.int .i64 t.v)).setCell ⟨g2, 3, none⟩ (.int .u8 t.c)).setCell ⟨g2, 4, none⟩ (.slice A m cp)) (fun b => w.heap.size ≤ b ∧ b < ((((((w3.alloc (Obj.cells #[.int .u8 x.k, .int .i64 x.n, .int .i64 x.v, .int .u8 x.c, .slice A3 m3 c3] 27)).setCell ⟨g2, 0, none⟩ (.int .u8 t.k)).setCell ⟨g2, 1, none⟩ (.int .i64 t.n)).setCell ⟨g2, 2, none⟩ (.int .i64 t.v)).setCell ⟨g2, 3, none⟩ (.int .u8 t.c)).setCell ⟨g2, 4, none⟩ (.slice A m cp)).heap.size) A m c l := by
          intro l A m c h
          refine h.keep (fun b hb => ⟨hb.1, by simpa using hb.2.1⟩) fun p hp => ?_
          have c1 : ∀ (W' : World) (o : Nat) (u : Value), (W'.setCell ⟨g2, o, none⟩ u).cell? p = W'.cell? p := fun W' o u => World.cell?_setCell_other _ _ _ _ (fun e => hp.2.2 (by rw [← e]))
          rw [c1, c1, c1, c1, c1]
        replace hr9 := hr9 _ _ _ _ HT4.out
        generalize ((((((w3.alloc (Obj.cells #[.int .u8 x.k, .int .i64 x.n, .int .i64 x.v, .int .u8 x.c, .slice A3 m3 c3] 27)).setCell ⟨g2, 0, none⟩ (.int .u8 t.k)).setCell ⟨g2, 1, none⟩ (.int .i64 t.n)).setCell ⟨g2, 2, none⟩ (.int .i64 t.v)).setCell ⟨g2, 3, none⟩ (.int .u8 t.c)).setCell ⟨g2, 4, none⟩ (.slice A m cp)) = W6 at hs hb9 hr9 ⊢
        have d0' : W6.cell? ⟨g2, 0, none⟩ = some (.int .u8 t.k) := hs.cell 0
        have d1' : W6.cell? ⟨g2, 1, none⟩ = some (.int .i64 t.n) := hs.cell 1
        have d2' : W6.cell? ⟨g2, 2, none⟩ = some (.int .i64 t.v) := hs.cell 2
        have d3' : W6.cell? ⟨g2, 3, none⟩ = some (.int .u8 t.c) := hs.cell 3
        have d4' : W6.cell? ⟨g2, 4, none⟩ = some (.slice A m cp) := hs.cell 4
        exact bodyPost_ret (v := .agg #[.int .u8 t.k, .int .i64 t.n, .int .i64 t.v, .int .u8 t.c, .slice A m cp]) (by simp [results, Tryd.results58, go_sem, d0', d1', d2', d3', d4']) rfl (by rw [HU.out]; exact ⟨_, _, _, rfl, hr9, hb9⟩)
    · have d1 : (t.k == 1) = false := by simp [hk]
      by_cases h7 : t.k = 7
      · have d7 : (t.k == 7) = true := by simp [h7]
        by_cases hc : t.c = 0
        · have dc : (t.c == 0) = true := by simp [hc]
          have hq := HMu.out t.v W (mayT_v HM.out) Hbx.out
          obtain ⟨V5, hV5⟩ : ∃ V5, (fm t.v).1 = V5 := ⟨_, rfl⟩
          obtain ⟨C5', hC5⟩ : ∃ C5, (fm t.v).2 = C5 := ⟨_, rfl⟩
          rw [hV5, hC5] at hq
          have HU : Hid (turnT fv fm t = .mk t.k t.n V5 C5' (t.l.map (turnT fv fm))) := Lib.hid (by rw [HU0.out, if_neg hk, if_pos ⟨h7, hc⟩, if_pos ⟨h7, hc⟩, hV5, hC5])
          have Hq := Lib.hid hq
          clear hq hV5 hC5 hk h7 hc HU0
          go_enter Tryd.func58, Tryd.ntmps58
          go_wp2_with fail
          rw [HW.out]
          refine Hq.out.mono ?_; rintro e w3 ⟨rfl, hb3⟩
          have hz3 := Hz.out.below hb3 Hz.out.lt
          have hy3 := Hy.out.below hb3 Hy.out.lt
          have hb0 : Below w.heap.size w w3 := Hbx.out.trans (hb3.mono Hbx.out.size)
          have hne : w.heap.size ≠ w.heap.size + 1 := by omega
          have x2 := hz3.cell 2
          have x3 := hz3.cell 3
          have x4 := hz3.cell 4
          have f2 := hz3.frozen 2
          have f3 := hz3.frozen 3
          have hz5 : Blk ((w3.setCell ⟨w.heap.size, 2, none⟩ (.int .i64 V5)).setCell ⟨w.heap.size, 3, none⟩ (.int .u8 C5')) w.heap.size 27 #[.int .u8 t.k, .int .i64 t.n, .int .i64 V5, .int .u8 C5', .slice A m cp] := (hz3.set_ 2 (.int .i64 V5)).set_ 3 (.int .u8 C5')
          have hy5 := (hy3.other hne 2 (.int .i64 V5)).other hne 3 (.int .u8 C5')
          have hb5 := (hb0.setCell (p := ⟨w.heap.size, 2, none⟩) (Nat.le_refl _) (.int .i64 V5)).setCell (p := ⟨w.heap.size, 3, none⟩) (Nat.le_refl _) (.int .u8 C5')
          have y4 : ((w3.setCell ⟨w.heap.size, 2, none⟩ (.int .i64 V5)).setCell ⟨w.heap.size, 3, none⟩ (.int .u8 C5')).cell? ⟨w.heap.size, 4, none⟩ = some (.slice A m cp) := hz5.cell 4
          obtain ⟨w5, hw5⟩ : ∃ w5, (w3.setCell ⟨w.heap.size, 2, none⟩ (.int .i64 V5)).setCell ⟨w.heap.size, 3, none⟩ (.int .u8 C5') = w5 := ⟨_, rfl⟩
          have hl5 : TysV w5 w.heap.size A m cp t.l := by
            refine HL0.out.keep fun p hp => ?_
            rw [← hw5]
            have c1 : ∀ (W' : World) (o : Nat) (u : Value), (W'.setCell ⟨w.heap.size, o, none⟩ u).cell? p = W'.cell? p := fun W' o u => World.cell?_setCell_other _ _ _ _ (fun e => by rw [← e] at hp; exact Nat.lt_irrefl _ hp)
            rw [c1, c1]
            exact hb3.cell (Nat.lt_of_lt_of_le hp Hbx.out.size)
          rw [hw5] at hz5 hy5 hb5
          have HL5 := Lib.hid (hl5.more hb5.size)
          have Hz5 := Lib.hid hz5
          have Hy5 := Lib.hid hy5
          have Hb5 := Lib.hid hb5
          have Hlz5 := Lib.hid hz5.lt
          have Hly5 := Lib.hid hy5.lt
          have hq := cloneTy_any A m cp t.l w5 HL5.out (by omega)
          have Hq := Lib.hid hq
          have Hw5 := Lib.hid hw5
          clear hq hz3 hy3 hb0 hz5 hy5 hb5 hl5 hw5 hb3 HL HL0 Hbx Hz Hy z0 z1 z2 z3 z4
          go_wp2_with fail
          rw [Hw5.out]
          clear x2 x3 x4 f2 f3 y4 Hw5
          refine Hq.out.mono ?_; rintro e w6 ⟨v1, rfl, hown, hform, hb1⟩
          obtain ⟨A1, c1, rfl⟩ : ∃ A1 c1, v1 = .slice A1 m c1 := ownsRow_form hown.2.choose_spec.1
          have HF := Lib.hid (TurnI.start (us := t.l.map (turnT fv fm)) hown (by rw [List.length_map]))
          have Hb1 := Lib.hid hb1
          clear hown hform hb1 Hq
          try clear y4
          go_wp2_with fail
          go_loopg [45] m (fun gh i wr => ∃ k : Nat, k ≤ m ∧ gh = m - k ∧ i = .int .i64 k ∧ TurnI t.l (t.l.map (turnT fv fm)) w5.heap.size w5.heap.size (.slice A1 m c1) m k wr ∧ Below w5.heap.size w5 wr)
          case atStart => exact ⟨0, Nat.zero_le _, rfl, rfl, HF.out, Hb1.out⟩
          case round =>
            obtain ⟨k, hk, rfl, rfl, hF, hbel⟩ := hrel
            by_cases hkm : k < m
            · have d0 : decide (k < m) = true := by simpa using hkm
              have hk' : k < t.l.length := by omega
              obtain ⟨g, rfl, hgb, hgs, A2, n2, c2, e0, e1, e2, e3, e4, hx, hfz⟩ := hF.slot hk'
              have hn := HN.out k hk'
              have hmx := mayT_kid HM.out hk'
              have hbB := below_box (w := wr) (Obj.cells #[.int .u8 t.l[k].k, .int .i64 t.l[k].n, .int .i64 t.l[k].v, .int .u8 t.l[k].c, .slice A2 n2 c2] 27)
              have hwB : Below w.heap.size w (wr.alloc (Obj.cells #[.int .u8 t.l[k].k, .int .i64 t.l[k].n, .int .i64 t.l[k].v, .int .u8 t.l[k].c, .slice A2 n2 c2] 27)) := (Hb5.out.trans (hbel.mono Hb5.out.size)).trans (hbB.mono (Nat.le_trans Hb5.out.size hbel.size))
              have hq := Ih.out t.l[k] hn hmx A2 n2 c2 _ (((hx.more hbel.size).below hbB).more hbB.size) (fun n w' h0 hb => HV.out n w' h0 (hwB.trans (hb.mono hwB.size))) (fun n w' h0 hb => HMu.out n w' h0 (hwB.trans (hb.mono hwB.size)))
              have hku : k < (t.l.map (turnT fv fm)).length := by rw [List.length_map]; exact hk'
              have hux : (t.l.map (turnT fv fm))[k] = turnT fv fm t.l[k] := List.getElem_map _
              obtain ⟨u, hu⟩ : ∃ u, turnT fv fm t.l[k] = u := ⟨_, rfl⟩
              rw [hu] at hux
              have hst := fun (w3 : World) (hb : Below wr.heap.size wr w3) (A3 : Option Addr) (n3 c3 : Nat) (h : TysS w3 (fun b => wr.heap.size ≤ b ∧ b < w3.heap.size) A3 n3 c3 u.l) => hF.step hku u hux hb (Nat.le_refl _) hbel.size h
              obtain ⟨x, hxk⟩ : ∃ x, t.l[k] = x := ⟨_, rfl⟩
              rw [hxk] at e0 e1 e2 e3 hx hn hmx hbB hq hu
              rw [hu] at hq
              have Hq := Lib.hid hq
              have Hst := Lib.hid hst
              have Hbel := Lib.hid hbel
              have HbB := Lib.hid hbB
              have Hfz := Lib.hid hfz
              have k1 : (0 : Int) ≤ (k : Int) := by omega
              have k2 : (k : Int) < m := by omega
              clear hx hn hmx hbB hwB hq hst hbel hF hxk hfz hux hu hku
              go_wp2_with fail
              refine Hq.out.mono ?_; rintro e w3 ⟨A3, n3, c3, rfl, hx3, hb3⟩
              have hb13 : Below wr.heap.size wr w3 := HbB.out.trans (hb3.mono HbB.out.size)
              have hs := Hst.out w3 hb13 A3 n3 c3 (hx3.mono fun b hb => ⟨Nat.le_trans HbB.out.size hb.1, hb.2⟩)
              have hbS : Below w5.heap.size w5 w3 := Hbel.out.trans (hb13.mono Hbel.out.size)
              have hbN := hbS.grown hs.2.1 hbS.size (fun j hj => by have := hs.2.2.1; injection hj with hj; omega)
              have Hs1 := Lib.hid hs.1
              have HbN := Lib.hid hbN
              have f0 := (hb13.cell (p := ⟨g, k * 5, none⟩) hgs).trans e0
              have f1 := (hb13.cell (p := ⟨g, k * 5 + 1, none⟩) hgs).trans e1
              have f2 := (hb13.cell (p := ⟨g, k * 5 + 2, none⟩) hgs).trans e2
              have f3 := (hb13.cell (p := ⟨g, k * 5 + 3, none⟩) hgs).trans e3
              have f4 := (hb13.cell (p := ⟨g, k * 5 + 4, none⟩) hgs).trans e4
              have z0 := (hb13.frozen (p := ⟨g, k * 5, none⟩) hgs).trans (Hfz.out (k * 5))
              have z1 := (hb13.frozen (p := ⟨g, k * 5 + 1, none⟩) hgs).trans (Hfz.out (k * 5 + 1))
              have z2 := (hb13.frozen (p := ⟨g, k * 5 + 2, none⟩) hgs).trans (Hfz.out (k * 5 + 2))
              have z3 := (hb13.frozen (p := ⟨g, k * 5 + 3, none⟩) hgs).trans (Hfz.out (k * 5 + 3))
              have z4 := (hb13.frozen (p := ⟨g, k * 5 + 4, none⟩) hgs).trans (Hfz.out (k * 5 + 4))
              clear hx3 hb3 hb13 hs hbS hbN e0 e1 e2 e3 e4 Hq Hst Hbel HbB Hfz
              go_wp2_with fail
              go_roundg (m - (k + 1))
              case measure => omega
              case rel => exact ⟨k + 1, by omega, rfl, by go_num, Hs1.out, HbN.out⟩
            · have d0 : decide (k < m) = false := by simpa using hkm
              have hkm' : k = m := by omega
              subst hkm'
              have hT := hF.done
              have hz := Hz5.out.below hbel Hlz5.out
              have hy := Hy5.out.below hbel Hly5.out
              have hb0 : Below w.heap.size w wr := Hb5.out.trans (hbel.mono Hb5.out.size)
              have hWs := Hb5.out.size
              have hly : w.heap.size + 1 < w5.heap.size := Hly5.out
              obtain ⟨g2, hg2⟩ : ∃ g2, w.heap.size + 1 = g2 := ⟨_, rfl⟩
              have hne : w.heap.size ≠ g2 := by omega
              have hg2w : w.heap.size ≤ g2 := by omega
              rw [hg2] at hy hly ⊢
              have hz1 : Blk (wr.setCell ⟨w.heap.size, 4, none⟩ (.slice A1 k c1)) w.heap.size 27 #[.int .u8 t.k, .int .i64 t.n, .int .i64 V5, .int .u8 C5', .slice A1 k c1] := hz.set_ 4 (.slice A1 k c1)
              have hy1 := hy.other hne 4 (.slice A1 k c1)
              have x4 := hz.cell 4
              have xf := hz.frozen 4
              have q0 := hz1.cell 0
              have q1 := hz1.cell 1
              have q2 := hz1.cell 2
              have q3 := hz1.cell 3
              have q4 := hz1.cell 4
              have r0 := hy1.cell 0
              have r1 := hy1.cell 1
              have r2 := hy1.cell 2
              have r3 := hy1.cell 3
              have r4 := hy1.cell 4
              have s0 := hy1.frozen 0
              have s1 := hy1.frozen 1
              have s2 := hy1.frozen 2
              have s3 := hy1.frozen 3
              have s4 := hy1.frozen 4
              have hb2 := hb0.setCell (p := ⟨w.heap.size, 4, none⟩) (Nat.le_refl _) (.slice A1 k c1)
              have HT := Lib.hid hT
              have Hy1 := Lib.hid hy1
              have Hb2 := Lib.hid hb2
              have Hly2 := Lib.hid hly
              clear hF hz hy hz1 hy1 hbel hT hb0 hb2 hg2 hly
              go_wp2_with fail
              have hs : Blk (((((( wr.setCell ⟨w.heap.size, 4, none⟩ (.slice A1 k c1)).setCell ⟨g2, 0, none⟩ (.int .u8 t.k)).setCell ⟨g2, 1, none⟩ (.int .i64 t.n)).setCell ⟨g2, 2, none⟩ (.int .i64 V5)).setCell ⟨g2, 3, none⟩ (.int .u8 C5')).setCell ⟨g2, 4, none⟩ (.slice A1 k c1)) g2 27 #[.int .u8 t.k, .int .i64 t.n, .int .i64 V5, .int .u8 C5', .slice A1 k c1] :=
                ((((Hy1.out.set_ 0 (.int .u8 t.k)).set_ 1 (.int .i64 t.n)).set_ 2 (.int .i64 V5)).set_ 3 (.int .u8 C5')).set_ 4 (.slice A1 k c1)
              have hb9 := ((((Hb2.out.setCell (p := ⟨g2, 0, none⟩) hg2w (.int .u8 t.k)).setCell (p := ⟨g2, 1, none⟩) hg2w (.int .i64 t.n)).setCell (p := ⟨g2, 2, none⟩) hg2w (.int .i64 V5)).setCell (p := ⟨g2, 3, none⟩) hg2w (.int .u8 C5')).setCell (p := ⟨g2, 4, none⟩) hg2w (.slice A1 k c1)
              have hr9 : TysS (((((( wr.setCell ⟨w.heap.size, 4, none⟩ (.slice A1 k c1)).setCell ⟨g2, 0, none⟩ (.int .u8 t.k)).setCell ⟨g2, 1, none⟩ (.int .i64 t.n)).setCell ⟨g2, 2, none⟩ (.int .i64 V5)).setCell ⟨g2, 3, none⟩ (.int .u8 C5')).setCell ⟨g2, 4, none⟩ (.slice A1 k c1)) (fun b => w.heap.size ≤ b ∧ b < (((((( wr.setCell ⟨w.heap.size, 4, none⟩ (.slice A1 k c1)).setCell ⟨g2, 0, none⟩ (.int .u8 t.k)).setCell ⟨g2, 1, none⟩ (.int .i64 t.n)).setCell ⟨g2, 2, none⟩ (.int .i64 V5)).setCell ⟨g2, 3, none⟩ (.int .u8 C5')).setCell ⟨g2, 4, none⟩ (.slice A1 k c1)).heap.size) A1 k c1 (t.l.map (turnT fv fm)) := by
                refine HT.out.keep (fun b hb => ⟨by omega, by simpa using hb.2⟩) fun p hp => ?_
                have hlo : w5.heap.size ≤ p.block := hp.1
                have hl2 := Hly2.out
                have c1 : ∀ (W' : World) (g o : Nat) (u : Value), g < w5.heap.size → (W'.setCell ⟨g, o, none⟩ u).cell? p = W'.cell? p := fun W' g o u hg => World.cell?_setCell_other _ _ _ _ (fun e => by rw [← e] at hlo; exact absurd hlo (by show ¬ w5.heap.size ≤ g; omega))
                rw [c1 _ _ _ _ (by omega), c1 _ _ _ _ (by omega), c1 _ _ _ _ (by omega), c1 _ _ _ _ (by omega), c1 _ _ _ _ (by omega), c1 _ _ _ _ (by omega)]
              generalize (((((( wr.setCell ⟨w.heap.size, 4, none⟩ (.slice A1 k c1)).setCell ⟨g2, 0, none⟩ (.int .u8 t.k)).setCell ⟨g2, 1, none⟩ (.int .i64 t.n)).setCell ⟨g2, 2, none⟩ (.int .i64 V5)).setCell ⟨g2, 3, none⟩ (.int .u8 C5')).setCell ⟨g2, 4, none⟩ (.slice A1 k c1)) = W6 at hs hb9 hr9 ⊢
              have d0' : W6.cell? ⟨g2, 0, none⟩ = some (.int .u8 t.k) := hs.cell 0
              have d1' : W6.cell? ⟨g2, 1, none⟩ = some (.int .i64 t.n) := hs.cell 1
              have d2' : W6.cell? ⟨g2, 2, none⟩ = some (.int .i64 V5) := hs.cell 2
              have d3' : W6.cell? ⟨g2, 3, none⟩ = some (.int .u8 C5') := hs.cell 3
              have d4' : W6.cell? ⟨g2, 4, none⟩ = some (.slice A1 k c1) := hs.cell 4
              exact bodyPost_ret (v := .agg #[.int .u8 t.k, .int .i64 t.n, .int .i64 V5, .int .u8 C5', .slice A1 k c1]) (by simp [results, Tryd.results58, go_sem, d0', d1', d2', d3', d4']) rfl (by rw [HU.out]; exact ⟨A1, k, c1, rfl, hr9, hb9⟩)
        · have dc : (t.c == 0) = false := by simp [hc]
          have HU : Hid (turnT fv fm t = .mk t.k t.n t.v t.c (t.l.map (turnT fv fm))) := Lib.hid (by rw [HU0.out, if_neg hk, if_neg (fun h => hc h.2), if_neg (fun h => hc h.2)])
          clear hk h7 hc HU0
          go_enter Tryd.func58, Tryd.ntmps58
          go_wp2_with fail
          rw [HW.out]
          obtain ⟨w5, hw5⟩ : ∃ w5, W = w5 := ⟨_, rfl⟩
          rw [hw5] at z0 z1 z2 z3 z4 ⊢
          have Hz5 := Lib.hid Hz.out
          have Hy5 := Lib.hid Hy.out
          have HL5 := Lib.hid HL.out
          have Hb5 := Lib.hid Hbx.out
          have Hlz5 := Lib.hid Hz.out.lt
          have Hly5 := Lib.hid Hy.out.lt
          rw [hw5] at Hz5 Hy5 HL5 Hb5 Hlz5 Hly5
          clear hw5 HL Hbx Hz Hy
          have hq := cloneTy_any A m cp t.l w5 HL5.out (by omega)
          have Hq := Lib.hid hq
          have y4 := Hz5.out.cell 4
          clear hq
          go_wp2_with fail
          refine Hq.out.mono ?_; rintro e w6 ⟨v1, rfl, hown, hform, hb1⟩
          obtain ⟨A1, c1, rfl⟩ : ∃ A1 c1, v1 = .slice A1 m c1 := ownsRow_form hown.2.choose_spec.1
          have HF := Lib.hid (TurnI.start (us := t.l.map (turnT fv fm)) hown (by rw [List.length_map]))
          have Hb1 := Lib.hid hb1
          clear hown hform hb1 Hq
          try clear y4
          go_wp2_with fail
          go_loopg [45] m (fun gh i wr => ∃ k : Nat, k ≤ m ∧ gh = m - k ∧ i = .int .i64 k ∧ TurnI t.l (t.l.map (turnT fv fm)) w5.heap.size w5.heap.size (.slice A1 m c1) m k wr ∧ Below w5.heap.size w5 wr)
          case atStart => exact ⟨0, Nat.zero_le _, rfl, rfl, HF.out, Hb1.out⟩
          case round =>
            obtain ⟨k, hk, rfl, rfl, hF, hbel⟩ := hrel
            by_cases hkm : k < m
            · have d0 : decide (k < m) = true := by simpa using hkm
              have hk' : k < t.l.length := by omega
              obtain ⟨g, rfl, hgb, hgs, A2, n2, c2, e0, e1, e2, e3, e4, hx, hfz⟩ := hF.slot hk'
              have hn := HN.out k hk'
              have hmx := mayT_kid HM.out hk'
              have hbB := below_box (w := wr) (Obj.cells #[.int .u8 t.l[k].k, .int .i64 t.l[k].n, .int .i64 t.l[k].v, .int .u8 t.l[k].c, .slice A2 n2 c2] 27)
              have hwB : Below w.heap.size w (wr.alloc (Obj.cells #[.int .u8 t.l[k].k, .int .i64 t.l[k].n, .int .i64 t.l[k].v, .int .u8 t.l[k].c, .slice A2 n2 c2] 27)) := (Hb5.out.trans (hbel.mono Hb5.out.size)).trans (hbB.mono (Nat.le_trans Hb5.out.size hbel.size))
              have hq := Ih.out t.l[k] hn hmx A2 n2 c2 _ (((hx.more hbel.size).below hbB).more hbB.size) (fun n w' h0 hb => HV.out n w' h0 (hwB.trans (hb.mono hwB.size))) (fun n w' h0 hb => HMu.out n w' h0 (hwB.trans (hb.mono hwB.size)))
              have hku : k < (t.l.map (turnT fv fm)).length := by rw [List.length_map]; exact hk'
              have hux : (t.l.map (turnT fv fm))[k] = turnT fv fm t.l[k] := List.getElem_map _
              obtain ⟨u, hu⟩ : ∃ u, turnT fv fm t.l[k] = u := ⟨_, rfl⟩
              rw [hu] at hux
              have hst := fun (w3 : World) (hb : Below wr.heap.size wr w3) (A3 : Option Addr) (n3 c3 : Nat) (h : TysS w3 (fun b => wr.heap.size ≤ b ∧ b < w3.heap.size) A3 n3 c3 u.l) => hF.step hku u hux hb (Nat.le_refl _) hbel.size h
              obtain ⟨x, hxk⟩ : ∃ x, t.l[k] = x := ⟨_, rfl⟩
              rw [hxk] at e0 e1 e2 e3 hx hn hmx hbB hq hu
              rw [hu] at hq
              have Hq := Lib.hid hq
              have Hst := Lib.hid hst
              have Hbel := Lib.hid hbel
              have HbB := Lib.hid hbB
              have Hfz := Lib.hid hfz
              have k1 : (0 : Int) ≤ (k : Int) := by omega
              have k2 : (k : Int) < m := by omega
              clear hx hn hmx hbB hwB hq hst hbel hF hxk hfz hux hu hku
              go_wp2_with fail
              refine Hq.out.mono ?_; rintro e w3 ⟨A3, n3, c3, rfl, hx3, hb3⟩
              have hb13 : Below wr.heap.size wr w3 := HbB.out.trans (hb3.mono HbB.out.size)
              have hs := Hst.out w3 hb13 A3 n3 c3 (hx3.mono fun b hb => ⟨Nat.le_trans HbB.out.size hb.1, hb.2⟩)
              have hbS : Below w5.heap.size w5 w3 := Hbel.out.trans (hb13.mono Hbel.out.size)
              have hbN := hbS.grown hs.2.1 hbS.size (fun j hj => by have := hs.2.2.1; injection hj with hj; omega)
              have Hs1 := Lib.hid hs.1
              have HbN := Lib.hid hbN
              have f0 := (hb13.cell (p := ⟨g, k * 5, none⟩) hgs).trans e0
              have f1 := (hb13.cell (p := ⟨g, k * 5 + 1, none⟩) hgs).trans e1
              have f2 := (hb13.cell (p := ⟨g, k * 5 + 2, none⟩) hgs).trans e2
              have f3 := (hb13.cell (p := ⟨g, k * 5 + 3, none⟩) hgs).trans e3
              have f4 := (hb13.cell (p := ⟨g, k * 5 + 4, none⟩) hgs).trans e4
              have z0 := (hb13.frozen (p := ⟨g, k * 5, none⟩) hgs).trans (Hfz.out (k * 5))
              have z1 := (hb13.frozen (p := ⟨g, k * 5 + 1, none⟩) hgs).trans (Hfz.out (k * 5 + 1))
              have z2 := (hb13.frozen (p := ⟨g, k * 5 + 2, none⟩) hgs).trans (Hfz.out (k * 5 + 2))
              have z3 := (hb13.frozen (p := ⟨g, k * 5 + 3, none⟩) hgs).trans (Hfz.out (k * 5 + 3))
              have z4 := (hb13.frozen (p := ⟨g, k * 5 + 4, none⟩) hgs).trans (Hfz.out (k * 5 + 4))
              clear hx3 hb3 hb13 hs hbS hbN e0 e1 e2 e3 e4 Hq Hst Hbel HbB Hfz
              go_wp2_with fail
              go_roundg (m - (k + 1))
              case measure => omega
              case rel => exact ⟨k + 1, by omega, rfl, by go_num, Hs1.out, HbN.out⟩
            · have d0 : decide (k < m) = false := by simpa using hkm
              have hkm' : k = m := by omega
              subst hkm'
              have hT := hF.done
              have hz := Hz5.out.below hbel Hlz5.out
              have hy := Hy5.out.below hbel Hly5.out
              have hb0 : Below w.heap.size w wr := Hb5.out.trans (hbel.mono Hb5.out.size)
              have hWs := Hb5.out.size
              have hly : w.heap.size + 1 < w5.heap.size := Hly5.out
              obtain ⟨g2, hg2⟩ : ∃ g2, w.heap.size + 1 = g2 := ⟨_, rfl⟩
              have hne : w.heap.size ≠ g2 := by omega
              have hg2w : w.heap.size ≤ g2 := by omega
              rw [hg2] at hy hly ⊢
              have hz1 : Blk (wr.setCell ⟨w.heap.size, 4, none⟩ (.slice A1 k c1)) w.heap.size 27 #[.int .u8 t.k, .int .i64 t.n, .int .i64 t.v, .int .u8 t.c, .slice A1 k c1] := hz.set_ 4 (.slice A1 k c1)
              have hy1 := hy.other hne 4 (.slice A1 k c1)
              have x4 := hz.cell 4
              have xf := hz.frozen 4
              have q0 := hz1.cell 0
              have q1 := hz1.cell 1
              have q2 := hz1.cell 2
              have q3 := hz1.cell 3
              have q4 := hz1.cell 4
              have r0 := hy1.cell 0
              have r1 := hy1.cell 1
              have r2 := hy1.cell 2
              have r3 := hy1.cell 3
              have r4 := hy1.cell 4
              have s0 := hy1.frozen 0
              have s1 := hy1.frozen 1
              have s2 := hy1.frozen 2
              have s3 := hy1.frozen 3
              have s4 := hy1.frozen 4
              have hb2 := hb0.setCell (p := ⟨w.heap.size, 4, none⟩) (Nat.le_refl _) (.slice A1 k c1)
              have HT := Lib.hid hT
              have Hy1 := Lib.hid hy1
              have Hb2 := Lib.hid hb2
              have Hly2 := Lib.hid hly
              clear hF hz hy hz1 hy1 hbel hT hb0 hb2 hg2 hly
              go_wp2_with fail
              have hs : Blk (((((( wr.setCell ⟨w.heap.size, 4, none⟩ (.slice A1 k c1)).setCell ⟨g2, 0, none⟩ (.int .u8 t.k)).setCell ⟨g2, 1, none⟩ (.int .i64 t.n)).setCell ⟨g2, 2, none⟩ (.int .i64 t.v)).setCell ⟨g2, 3, none⟩ (.int .u8 t.c)).setCell ⟨g2, 4, none⟩ (.slice A1 k c1)) g2 27 #[.int .u8 t.k, .int .i64 t.n, .int .i64 t.v, .int .u8 t.c, .slice A1 k c1] :=
                ((((Hy1.out.set_ 0 (.int .u8 t.k)).set_ 1 (.int .i64 t.n)).set_ 2 (.int .i64 t.v)).set_ 3 (.int .u8 t.c)).set_ 4 (.slice A1 k c1)
              have hb9 := ((((Hb2.out.setCell (p := ⟨g2, 0, none⟩) hg2w (.int .u8 t.k)).setCell (p := ⟨g2, 1, none⟩) hg2w (.int .i64 t.n)).setCell (p := ⟨g2, 2, none⟩) hg2w (.int .i64 t.v)).setCell (p := ⟨g2, 3, none⟩) hg2w (.int .u8 t.c)).setCell (p := ⟨g2, 4, none⟩) hg2w (.slice A1 k c1)
              have hr9 : TysS (((((( wr.setCell ⟨w.heap.size, 4, none⟩ (.slice A1 k c1)).setCell ⟨g2, 0, none⟩ (.int .u8 t.k)).setCell ⟨g2, 1, none⟩ (.int .i64 t.n)).setCell ⟨g2, 2, none⟩ (.int .i64 t.v)).setCell ⟨g2, 3, none⟩ (.int .u8 t.c)).setCell ⟨g2, 4, none⟩ (.slice A1 k c1)) (fun b => w.heap.size ≤ b ∧ b < (((((( wr.setCell ⟨w.heap.size, 4, none⟩ (.slice A1 k c1)).setCell ⟨g2, 0, none⟩ (.int .u8 t.k)).setCell ⟨g2, 1, none⟩ (.int .i64 t.n)).setCell ⟨g2, 2, none⟩ (.int .i64 t.v)).setCell ⟨g2, 3, none⟩ (.int .u8 t.c)).setCell ⟨g2, 4, none⟩ (.slice A1 k c1)).heap.size) A1 k c1 (t.l.map (turnT fv fm)) := by
                refine HT.out.keep (fun b hb => ⟨by omega, by simpa using hb.2⟩) fun p hp => ?_
                have hlo : w5.heap.size ≤ p.block := hp.1
                have hl2 := Hly2.out
                have c1 : ∀ (W' : World) (g o : Nat) (u : Value), g < w5.heap.size → (W'.setCell ⟨g, o, none⟩ u).cell? p = W'.cell? p := fun W' g o u hg => World.cell?_setCell_other _ _ _ _ (fun e => by rw [← e] at hlo; exact absurd hlo (by show ¬ w5.heap.size ≤ g; omega))
                rw [c1 _ _ _ _ (by omega), c1 _ _ _ _ (by omega), c1 _ _ _ _ (by omega), c1 _ _ _ _ (by omega), c1 _ _ _ _ (by omega), c1 _ _ _ _ (by omega)]
              generalize (((((( wr.setCell ⟨w.heap.size, 4, none⟩ (.slice A1 k c1)).setCell ⟨g2, 0, none⟩ (.int .u8 t.k)).setCell ⟨g2, 1, none⟩ (.int .i64 t.n)).setCell ⟨g2, 2, none⟩ (.int .i64 t.v)).setCell ⟨g2, 3, none⟩ (.int .u8 t.c)).setCell ⟨g2, 4, none⟩ (.slice A1 k c1)) = W6 at hs hb9 hr9 ⊢
              have d0' : W6.cell? ⟨g2, 0, none⟩ = some (.int .u8 t.k) := hs.cell 0
              have d1' : W6.cell? ⟨g2, 1, none⟩ = some (.int .i64 t.n) := hs.cell 1
              have d2' : W6.cell? ⟨g2, 2, none⟩ = some (.int .i64 t.v) := hs.cell 2
              have d3' : W6.cell? ⟨g2, 3, none⟩ = some (.int .u8 t.c) := hs.cell 3
              have d4' : W6.cell? ⟨g2, 4, none⟩ = some (.slice A1 k c1) := hs.cell 4
              exact bodyPost_ret (v := .agg #[.int .u8 t.k, .int .i64 t.n, .int .i64 t.v, .int .u8 t.c, .slice A1 k c1]) (by simp [results, Tryd.results58, go_sem, d0', d1', d2', d3', d4']) rfl (by rw [HU.out]; exact ⟨A1, k, c1, rfl, hr9, hb9⟩)
      · have d7 : (t.k == 7) = false := by simp [h7]
        have HU : Hid (turnT fv fm t = .mk t.k t.n t.v t.c (t.l.map (turnT fv fm))) := Lib.hid (by rw [HU0.out, if_neg hk, if_neg (fun h => h7 h.1), if_neg (fun h => h7 h.1)])
        clear hk h7 HU0
        go_enter Tryd.func58, Tryd.ntmps58
        go_wp2_with fail
        rw [HW.out]
        obtain ⟨w5, hw5⟩ : ∃ w5, W = w5 := ⟨_, rfl⟩
        rw [hw5] at z0 z1 z2 z3 z4 ⊢
        have Hz5 := Lib.hid Hz.out
        have Hy5 := Lib.hid Hy.out
        have HL5 := Lib.hid HL.out
        have Hb5 := Lib.hid Hbx.out
        have Hlz5 := Lib.hid Hz.out.lt
        have Hly5 := Lib.hid Hy.out.lt
        rw [hw5] at Hz5 Hy5 HL5 Hb5 Hlz5 Hly5
        clear hw5 HL Hbx Hz Hy
        have hq := cloneTy_any A m cp t.l w5 HL5.out (by omega)
        have Hq := Lib.hid hq
        have y4 := Hz5.out.cell 4
        clear hq
        go_wp2_with fail
        refine Hq.out.mono ?_; rintro e w6 ⟨v1, rfl, hown, hform, hb1⟩
        obtain ⟨A1, c1, rfl⟩ : ∃ A1 c1, v1 = .slice A1 m c1 := ownsRow_form hown.2.choose_spec.1
        have HF := Lib.hid (TurnI.start (us := t.l.map (turnT fv fm)) hown (by rw [List.length_map]))
        have Hb1 := Lib.hid hb1
        clear hown hform hb1 Hq
        try clear y4
        go_wp2_with fail
        go_loopg [45] m (fun gh i wr => ∃ k : Nat, k ≤ m ∧ gh = m - k ∧ i = .int .i64 k ∧ TurnI t.l (t.l.map (turnT fv fm)) w5.heap.size w5.heap.size (.slice A1 m c1) m k wr ∧ Below w5.heap.size w5 wr)
        case atStart => exact ⟨0, Nat.zero_le _, rfl, rfl, HF.out, Hb1.out⟩
        case round =>
          obtain ⟨k, hk, rfl, rfl, hF, hbel⟩ := hrel
          by_cases hkm : k < m
          · have d0 : decide (k < m) = true := by simpa using hkm
            have hk' : k < t.l.length := by omega
            obtain ⟨g, rfl, hgb, hgs, A2, n2, c2, e0, e1, e2, e3, e4, hx, hfz⟩ := hF.slot hk'
            have hn := HN.out k hk'
            have hmx := mayT_kid HM.out hk'
            have hbB := below_box (w := wr) (Obj.cells #[.int .u8 t.l[k].k, .int .i64 t.l[k].n, .int .i64 t.l[k].v, .int .u8 t.l[k].c, .slice A2 n2 c2] 27)
            have hwB : Below w.heap.size w (wr.alloc (Obj.cells #[.int .u8 t.l[k].k, .int .i64 t.l[k].n, .int .i64 t.l[k].v, .int .u8 t.l[k].c, .slice A2 n2 c2] 27)) := (Hb5.out.trans (hbel.mono Hb5.out.size)).trans (hbB.mono (Nat.le_trans Hb5.out.size hbel.size))
            have hq := Ih.out t.l[k] hn hmx A2 n2 c2 _ (((hx.more hbel.size).below hbB).more hbB.size) (fun n w' h0 hb => HV.out n w' h0 (hwB.trans (hb.mono hwB.size))) (fun n w' h0 hb => HMu.out n w' h0 (hwB.trans (hb.mono hwB.size)))
            have hku : k < (t.l.map (turnT fv fm)).length := by rw [List.length_map]; exact hk'
            have hux : (t.l.map (turnT fv fm))[k] = turnT fv fm t.l[k] := List.getElem_map _
            obtain ⟨u, hu⟩ : ∃ u, turnT fv fm t.l[k] = u := ⟨_, rfl⟩
            rw [hu] at hux
            have hst := fun (w3 : World) (hb : Below wr.heap.size wr w3) (A3 : Option Addr) (n3 c3 : Nat) (h : TysS w3 (fun b => wr.heap.size ≤ b ∧ b < w3.heap.size) A3 n3 c3 u.l) => hF.step hku u hux hb (Nat.le_refl _) hbel.size h
            obtain ⟨x, hxk⟩ : ∃ x, t.l[k] = x := ⟨_, rfl⟩
            rw [hxk] at e0 e1 e2 e3 hx hn hmx hbB hq hu
            rw [hu] at hq
            have Hq := Lib.hid hq
            have Hst := Lib.hid hst
            have Hbel := Lib.hid hbel
            have HbB := Lib.hid hbB
            have Hfz := Lib.hid hfz
            have k1 : (0 : Int) ≤ (k : Int) := by omega
            have k2 : (k : Int) < m := by omega
            clear hx hn hmx hbB hwB hq hst hbel hF hxk hfz hux hu hku
            go_wp2_with fail
            refine Hq.out.mono ?_; rintro e w3 ⟨A3, n3, c3, rfl, hx3, hb3⟩
            have hb13 : Below wr.heap.size wr w3 := HbB.out.trans (hb3.mono HbB.out.size)
            have hs := Hst.out w3 hb13 A3 n3 c3 (hx3.mono fun b hb => ⟨Nat.le_trans HbB.out.size hb.1, hb.2⟩)
            have hbS : Below w5.heap.size w5 w3 := Hbel.out.trans (hb13.mono Hbel.out.size)
            have hbN := hbS.grown hs.2.1 hbS.size (fun j hj => by have := hs.2.2.1; injection hj with hj; omega)
            have Hs1 := Lib.hid hs.1
            have HbN := Lib.hid hbN
            have f0 := (hb13.cell (p := ⟨g, k * 5, none⟩) hgs).trans e0
            have f1 := (hb13.cell (p := ⟨g, k * 5 + 1, none⟩) hgs).trans e1
            have f2 := (hb13.cell (p := ⟨g, k * 5 + 2, none⟩) hgs).trans e2
            have f3 := (hb13.cell (p := ⟨g, k * 5 + 3, none⟩) hgs).trans e3
            have f4 := (hb13.cell (p := ⟨g, k * 5 + 4, none⟩) hgs).trans e4
            have z0 := (hb13.frozen (p := ⟨g, k * 5, none⟩) hgs).trans (Hfz.out (k * 5))
            have z1 := (hb13.frozen (p := ⟨g, k * 5 + 1, none⟩) hgs).trans (Hfz.out (k * 5 + 1))
            have z2 := (hb13.frozen (p := ⟨g, k * 5 + 2, none⟩) hgs).trans (Hfz.out (k * 5 + 2))
            have z3 := (hb13.frozen (p := ⟨g, k * 5 + 3, none⟩) hgs).trans (Hfz.out (k * 5 + 3))
            have z4 := (hb13.frozen (p := ⟨g, k * 5 + 4, none⟩) hgs).trans (Hfz.out (k * 5 + 4))
            clear hx3 hb3 hb13 hs hbS hbN e0 e1 e2 e3 e4 Hq Hst Hbel HbB Hfz
            go_wp2_with fail
            go_roundg (m - (k + 1))
            case measure => omega
            case rel => exact ⟨k + 1, by omega, rfl, by go_num, Hs1.out, HbN.out⟩
          · have d0 : decide (k < m) = false := by simpa using hkm
            have hkm' : k = m := by omega
            subst hkm'
            have hT := hF.done
            have hz := Hz5.out.below hbel Hlz5.out
            have hy := Hy5.out.below hbel Hly5.out
            have hb0 : Below w.heap.size w wr := Hb5.out.trans (hbel.mono Hb5.out.size)
            have hWs := Hb5.out.size
            have hly : w.heap.size + 1 < w5.heap.size := Hly5.out
            obtain ⟨g2, hg2⟩ : ∃ g2, w.heap.size + 1 = g2 := ⟨_, rfl⟩
            have hne : w.heap.size ≠ g2 := by omega
            have hg2w : w.heap.size ≤ g2 := by omega
            rw [hg2] at hy hly ⊢
            have hz1 : Blk (wr.setCell ⟨w.heap.size, 4, none⟩ (.slice A1 k c1)) w.heap.size 27 #[.int .u8 t.k, .int .i64 t.n, .int .i64 t.v, .int .u8 t.c, .slice A1 k c1] := hz.set_ 4 (.slice A1 k c1)
            have hy1 := hy.other hne 4 (.slice A1 k c1)
            have x4 := hz.cell 4
            have xf := hz.frozen 4
            have q0 := hz1.cell 0
            have q1 := hz1.cell 1
            have q2 := hz1.cell 2
            have q3 := hz1.cell 3
            have q4 := hz1.cell 4
            have r0 := hy1.cell 0
            have r1 := hy1.cell 1
            have r2 := hy1.cell 2
            have r3 := hy1.cell 3
            have r4 := hy1.cell 4
            have s0 := hy1.frozen 0
            have s1 := hy1.frozen 1
            have s2 := hy1.frozen 2
            have s3 := hy1.frozen 3
            have s4 := hy1.frozen 4
            have hb2 := hb0.setCell (p := ⟨w.heap.size, 4, none⟩) (Nat.le_refl _) (.slice A1 k c1)
            have HT := Lib.hid hT
            have Hy1 := Lib.hid hy1
            have Hb2 := Lib.hid hb2
            have Hly2 := Lib.hid hly
            clear hF hz hy hz1 hy1 hbel hT hb0 hb2 hg2 hly
            go_wp2_with fail
            have hs : Blk (((((( wr.setCell ⟨w.heap.size, 4, none⟩ (.slice A1 k c1)).setCell ⟨g2, 0, none⟩ (.int .u8 t.k)).setCell ⟨g2, 1, none⟩ (.int .i64 t.n)).setCell ⟨g2, 2, none⟩ (.int .i64 t.v)).setCell ⟨g2, 3, none⟩ (.int .u8 t.c)).setCell ⟨g2, 4, none⟩ (.slice A1 k c1)) g2 27 #[.int .u8 t.k, .int .i64 t.n, .int .i64 t.v, .int .u8 t.c, .slice A1 k c1] :=
              ((((Hy1.out.set_ 0 (.int .u8 t.k)).set_ 1 (.int .i64 t.n)).set_ 2 (.int .i64 t.v)).set_ 3 (.int .u8 t.c)).set_ 4 (.slice A1 k c1)
            have hb9 := ((((Hb2.out.setCell (p := ⟨g2, 0, none⟩) hg2w (.int .u8 t.k)).setCell (p := ⟨g2, 1, none⟩) hg2w (.int .i64 t.n)).setCell (p := ⟨g2, 2, none⟩) hg2w (.int .i64 t.v)).setCell (p := ⟨g2, 3, none⟩) hg2w (.int .u8 t.c)).setCell (p := ⟨g2, 4, none⟩) hg2w (.slice A1 k c1)
            have hr9 : TysS (((((( wr.setCell ⟨w.heap.size, 4, none⟩ (.slice A1 k c1)).setCell ⟨g2, 0, none⟩ (.int .u8 t.k)).setCell ⟨g2, 1, none⟩ (.int .i64 t.n)).setCell ⟨g2, 2, none⟩ (.int .i64 t.v)).setCell ⟨g2, 3, none⟩ (.int .u8 t.c)).setCell ⟨g2, 4, none⟩ (.slice A1 k c1)) (fun b => w.heap.size ≤ b ∧ b < (((((( wr.setCell ⟨w.heap.size, 4, none⟩ (.slice A1 k c1)).setCell ⟨g2, 0, none⟩ (.int .u8 t.k)).setCell ⟨g2, 1, none⟩ (.int .i64 t.n)).setCell ⟨g2, 2, none⟩ (.int .i64 t.v)).setCell ⟨g2, 3, none⟩ (.int .u8 t.c)).setCell ⟨g2, 4, none⟩ (.slice A1 k c1)).heap.size) A1 k c1 (t.l.map (turnT fv fm)) := by
              refine HT.out.keep (fun b hb => ⟨by omega, by simpa using hb.2⟩) fun p hp => ?_
              have hlo : w5.heap.size ≤ p.block := hp.1
              have hl2 := Hly2.out
              have c1 : ∀ (W' : World) (g o : Nat) (u : Value), g < w5.heap.size → (W'.setCell ⟨g, o, none⟩ u).cell? p = W'.cell? p := fun W' g o u hg => World.cell?_setCell_other _ _ _ _ (fun e => by rw [← e] at hlo; exact absurd hlo (by show ¬ w5.heap.size ≤ g; omega))
              rw [c1 _ _ _ _ (by omega), c1 _ _ _ _ (by omega), c1 _ _ _ _ (by omega), c1 _ _ _ _ (by omega), c1 _ _ _ _ (by omega), c1 _ _ _ _ (by omega)]
            generalize (((((( wr.setCell ⟨w.heap.size, 4, none⟩ (.slice A1 k c1)).setCell ⟨g2, 0, none⟩ (.int .u8 t.k)).setCell ⟨g2, 1, none⟩ (.int .i64 t.n)).setCell ⟨g2, 2, none⟩ (.int .i64 t.v)).setCell ⟨g2, 3, none⟩ (.int .u8 t.c)).setCell ⟨g2, 4, none⟩ (.slice A1 k c1)) = W6 at hs hb9 hr9 ⊢
            have d0' : W6.cell? ⟨g2, 0, none⟩ = some (.int .u8 t.k) := hs.cell 0
            have d1' : W6.cell? ⟨g2, 1, none⟩ = some (.int .i64 t.n) := hs.cell 1
            have d2' : W6.cell? ⟨g2, 2, none⟩ = some (.int .i64 t.v) := hs.cell 2
            have d3' : W6.cell? ⟨g2, 3, none⟩ = some (.int .u8 t.c) := hs.cell 3
            have d4' : W6.cell? ⟨g2, 4, none⟩ = some (.slice A1 k c1) := hs.cell 4
            exact bodyPost_ret (v := .agg #[.int .u8 t.k, .int .i64 t.n, .int .i64 t.v, .int .u8 t.c, .slice A1 k c1]) (by simp [results, Tryd.results58, go_sem, d0', d1', d2', d3', d4']) rfl (by rw [HU.out]; exact ⟨A1, k, c1, rfl, hr9, hb9⟩)

set_option maxRecDepth 100000 in
set_option maxHeartbeats 2000000 in
theorem canon1_any (p1 : Nat) (A : Option Addr) (m c : Nat) (l : List Int) (i : Int) (w : World) (hp : w.cell? ⟨p1, 0, none⟩ = some (.slice A m c)) (hr : RdI .i64 w w.heap.size A m c l) :
    Calls Tryd.prog 63 (#[.int .i64 i] ++ #[.pointer (some ⟨p1, 0, none⟩)]) w (VPost (fun n => some (plainV (idxN l n))) i w) := by
  have hbx := below_box (w := w) (Obj.cells #[.int .u8 0, .int .i64 0, .int .i64 0, .int .u8 0, .slice none 0 0] 27)
  have hy := blk_new w #[.int .u8 0, .int .i64 0, .int .i64 0, .int .u8 0, .slice none 0 0] 27
  have hp1 := (hbx.cell (p := ⟨p1, 0, none⟩) (block_lt_of_cell hp)).trans hp
  have hq := indexI_any A m c l i _ _ (hr.below hbx)
  obtain ⟨x, hx⟩ : ∃ x, idxN l i = x := ⟨_, rfl⟩
  rw [hx] at hq
  have Hq := Lib.hid hq
  have Hx := Lib.hid hx
  have Hbx := Lib.hid hbx
  have s0 := hy.frozen 0
  have s1 := hy.frozen 1
  have s2 := hy.frozen 2
  have s3 := hy.frozen 3
  have s4 := hy.frozen 4
  have r0 := hy.cell 0
  have r1 := hy.cell 1
  have r2 := hy.cell 2
  have r3 := hy.cell 3
  have r4 := hy.cell 4
  have Hy := Lib.hid hy
  clear hbx hy hp hr hq hx
  go_enter Tryd.func63, Tryd.ntmps63
  go_wp2_with fail
  refine Hq.out.mono ?_; rintro e w3 ⟨rfl, rfl⟩
  go_wp2_with fail
  have hs9 := blk_new w #[.int .u8 1, .int .i64 x, .int .i64 0, .int .u8 0, .slice none 0 0] 27
  have d0' := hs9.cell 0
  have d1' := hs9.cell 1
  have d2' := hs9.cell 2
  have d3' := hs9.cell 3
  have d4' := hs9.cell 4
  exact bodyPost_ret (v := .tuple #[.agg #[.int .u8 1, .int .i64 x, .int .i64 0, .int .u8 0, .slice none 0 0], .bool true]) (by simp [results, Tryd.results63, go_sem, d0', d1', d2', d3', d4']) rfl ⟨plainV x, none, 0, 0, true, rfl, TysS.nil, by show some (plainV (idxN l i)) = _; rw [Hx.out]; rfl, below_box _⟩
set_option maxRecDepth 100000 in
set_option maxHeartbeats 2000000 in
theorem canon2_any (p1 : Nat) (A : Option Addr) (m c : Nat) (l : List Int) (i : Int) (w : World) (hp : w.cell? ⟨p1, 0, none⟩ = some (.slice A m c)) (hr : RdI .i64 w w.heap.size A m c l) :
    Calls Tryd.prog 64 (#[.int .i64 i] ++ #[.pointer (some ⟨p1, 0, none⟩)]) w fun e w' => e = .returned (.agg #[.int .i64 ((fun v => (idxN l v, (0 : Int))) i).1, .int .u8 ((fun v => (idxN l v, (0 : Int))) i).2]) ∧ Below w.heap.size w w' := by
  have hbx := below_box (w := w) (Obj.cells #[.int .i64 0, .int .u8 0] 24)
  have hy := blk_new w #[.int .i64 0, .int .u8 0] 24
  have hp1 := (hbx.cell (p := ⟨p1, 0, none⟩) (block_lt_of_cell hp)).trans hp
  have hq := indexI_any A m c l i _ _ (hr.below hbx)
  show Calls _ _ _ _ fun e w' => e = .returned (.agg #[.int .i64 (idxN l i), .int .u8 0]) ∧ Below w.heap.size w w'
  obtain ⟨x, hx⟩ : ∃ x, idxN l i = x := ⟨_, rfl⟩
  rw [hx] at hq ⊢
  have Hq := Lib.hid hq
  have Hbx := Lib.hid hbx
  have s0 := hy.frozen 0
  have s1 := hy.frozen 1
  have r0 := hy.cell 0
  have r1 := hy.cell 1
  have Hy := Lib.hid hy
  clear hbx hy hp hr hq hx
  go_enter Tryd.func64, Tryd.ntmps64
  go_wp2_with fail
  refine Hq.out.mono ?_; rintro e w3 ⟨rfl, rfl⟩
  go_wp2_with fail
  have hs9 := blk_new w #[.int .i64 x, .int .u8 0] 24
  have d0' := hs9.cell 0
  have d1' := hs9.cell 1
  exact bodyPost_ret (v := .agg #[.int .i64 x, .int .u8 0]) (by simp [results, Tryd.results64, go_sem, d0', d1']) rfl ⟨rfl, below_box _⟩
end Go.Proofs.YtidamlkekgnhgaaDoor

/- The contract of ty.Canon: the function. -/
namespace Go.Proofs.YtidamlkekgnhgaaDoor
set_option linter.unusedVariables false
set_option linter.unusedSimpArgs false
open Go.RowKit

def RetCan (u : TyD) (l1 l2 : List Int) (w : World) (e : Ending) (w' : World) : Prop :=
  ∃ A m c A1 n1 c1 A2 n2 c2, e = .returned (.tuple #[.agg #[.int .u8 u.k, .int .i64 u.n, .int .i64 u.v, .int .u8 u.c, .slice A m c], .slice A1 n1 c1, .slice A2 n2 c2]) ∧ TysV w' w'.heap.size A m c u.l ∧ RdI .i64 w' w'.heap.size A1 n1 c1 l1 ∧ RdI .i64 w' w'.heap.size A2 n2 c2 l2 ∧ Below w.heap.size w w'
theorem RdI.fresh {k : IntKind} {w w' : World} {A : Option Addr} {n c : Nat} {us : List Int} (h : RdI k w w.heap.size A n c us) (hb : Below w.heap.size w w') : RdI k w' w'.heap.size A n c us := (h.below hb).more hb.size
theorem set_to {w : World} {a b : Addr} {v u : Value} (h : w.cell? b = some u) (hv : a = b → v = u) : (w.setCell a v).cell? b = some u := by
  by_cases e : a = b
  · subst e
    rw [hv rfl]
    exact World.cell?_setCell_same' w a u (by rw [h]; rfl)
  · rw [World.cell?_setCell_other _ _ _ _ e]
    exact h
section
variable {s : Nat} {W : World} {x0 x1 x2 x3 x4 y z : Value}
theorem keep_x (h : W.cell? ⟨s, 0, none⟩ = some x0 ∧ W.cell? ⟨s, 1, none⟩ = some x1 ∧ W.cell? ⟨s, 2, none⟩ = some x2 ∧ W.cell? ⟨s, 3, none⟩ = some x3 ∧ W.cell? ⟨s, 4, none⟩ = some x4 ∧ W.cell? ⟨s + 1 + 1, 0, none⟩ = some y ∧ W.cell? ⟨s + 1 + 1 + 1, 0, none⟩ = some z) :
    (W.setCell ⟨s + 1 + 1, 0, none⟩ y).cell? ⟨s, 0, none⟩ = some x0 ∧ (W.setCell ⟨s + 1 + 1, 0, none⟩ y).cell? ⟨s, 1, none⟩ = some x1 ∧ (W.setCell ⟨s + 1 + 1, 0, none⟩ y).cell? ⟨s, 2, none⟩ = some x2 ∧ (W.setCell ⟨s + 1 + 1, 0, none⟩ y).cell? ⟨s, 3, none⟩ = some x3 ∧ (W.setCell ⟨s + 1 + 1, 0, none⟩ y).cell? ⟨s, 4, none⟩ = some x4 ∧ (W.setCell ⟨s + 1 + 1, 0, none⟩ y).cell? ⟨s + 1 + 1, 0, none⟩ = some y ∧ (W.setCell ⟨s + 1 + 1, 0, none⟩ y).cell? ⟨s + 1 + 1 + 1, 0, none⟩ = some z := by
  obtain ⟨h0, h1, h2, h3, h4, h5, h6⟩ := h
  refine ⟨set_to h0 ?_, set_to h1 ?_, set_to h2 ?_, set_to h3 ?_, set_to h4 ?_, set_to h5 ?_, set_to h6 ?_⟩ <;> (intro e; first | rfl | (injection e with e1 e2; exfalso; omega))
theorem keep_o {v0 v1 v2 v3 v4 : Value} (h : W.cell? ⟨s, 0, none⟩ = some x0 ∧ W.cell? ⟨s, 1, none⟩ = some x1 ∧ W.cell? ⟨s, 2, none⟩ = some x2 ∧ W.cell? ⟨s, 3, none⟩ = some x3 ∧ W.cell? ⟨s, 4, none⟩ = some x4 ∧ W.cell? ⟨s + 1 + 1, 0, none⟩ = some y ∧ W.cell? ⟨s + 1 + 1 + 1, 0, none⟩ = some z) :
    let W' := ((((W.setCell ⟨s + 1, 0, none⟩ v0).setCell ⟨s + 1, 1, none⟩ v1).setCell ⟨s + 1, 2, none⟩ v2).setCell ⟨s + 1, 3, none⟩ v3).setCell ⟨s + 1, 4, none⟩ v4
    W'.cell? ⟨s, 0, none⟩ = some x0 ∧ W'.cell? ⟨s, 1, none⟩ = some x1 ∧ W'.cell? ⟨s, 2, none⟩ = some x2 ∧ W'.cell? ⟨s, 3, none⟩ = some x3 ∧ W'.cell? ⟨s, 4, none⟩ = some x4 ∧ W'.cell? ⟨s + 1 + 1, 0, none⟩ = some y ∧ W'.cell? ⟨s + 1 + 1 + 1, 0, none⟩ = some z := by
  obtain ⟨h0, h1, h2, h3, h4, h5, h6⟩ := h
  have c : ∀ (W : World) (i : Nat) (v : Value) (b o : Nat), b ≠ s + 1 → (W.setCell ⟨s + 1, i, none⟩ v).cell? ⟨b, o, none⟩ = W.cell? ⟨b, o, none⟩ := fun W i v b o hb => World.cell?_setCell_other _ _ _ _ (fun e => hb (by injection e with e1 e2; exact e1.symm))
  refine ⟨?_, ?_, ?_, ?_, ?_, ?_, ?_⟩
  all_goals (rw [c _ _ _ _ _ (by omega), c _ _ _ _ _ (by omega), c _ _ _ _ _ (by omega), c _ _ _ _ _ (by omega), c _ _ _ _ _ (by omega)]; assumption)
theorem keep_q (h : W.cell? ⟨s, 0, none⟩ = some x0 ∧ W.cell? ⟨s, 1, none⟩ = some x1 ∧ W.cell? ⟨s, 2, none⟩ = some x2 ∧ W.cell? ⟨s, 3, none⟩ = some x3 ∧ W.cell? ⟨s, 4, none⟩ = some x4 ∧ W.cell? ⟨s + 1 + 1, 0, none⟩ = some y ∧ W.cell? ⟨s + 1 + 1 + 1, 0, none⟩ = some z) :
    (W.setCell ⟨s + 1 + 1 + 1, 0, none⟩ z).cell? ⟨s, 0, none⟩ = some x0 ∧ (W.setCell ⟨s + 1 + 1 + 1, 0, none⟩ z).cell? ⟨s, 1, none⟩ = some x1 ∧ (W.setCell ⟨s + 1 + 1 + 1, 0, none⟩ z).cell? ⟨s, 2, none⟩ = some x2 ∧ (W.setCell ⟨s + 1 + 1 + 1, 0, none⟩ z).cell? ⟨s, 3, none⟩ = some x3 ∧ (W.setCell ⟨s + 1 + 1 + 1, 0, none⟩ z).cell? ⟨s, 4, none⟩ = some x4 ∧ (W.setCell ⟨s + 1 + 1 + 1, 0, none⟩ z).cell? ⟨s + 1 + 1, 0, none⟩ = some y ∧ (W.setCell ⟨s + 1 + 1 + 1, 0, none⟩ z).cell? ⟨s + 1 + 1 + 1, 0, none⟩ = some z := by
  obtain ⟨h0, h1, h2, h3, h4, h5, h6⟩ := h
  refine ⟨set_to h0 ?_, set_to h1 ?_, set_to h2 ?_, set_to h3 ?_, set_to h4 ?_, set_to h5 ?_, set_to h6 ?_⟩ <;> (intro e; first | rfl | (injection e with e1 e2; exfalso; omega))
end
set_option maxRecDepth 100000 in
set_option maxHeartbeats 4000000 in
theorem canon_any (t : TyD) (hm : mayT t = true) (A : Option Addr) (m cp : Nat) (w : World) (hl : TysV w w.heap.size A m cp t.l) :
    Calls Tryd.prog 30 #[.agg #[.int .u8 t.k, .int .i64 t.n, .int .i64 t.v, .int .u8 t.c, .slice A m cp]] w (RetCan (canT t) (varsT t) (multsT t) w) := by
  obtain ⟨W, hW⟩ : ∃ W, (((w.alloc (Obj.cells #[.int .u8 t.k, .int .i64 t.n, .int .i64 t.v, .int .u8 t.c, .slice A m cp] 27)).alloc (Obj.cells #[.int .u8 0, .int .i64 0, .int .i64 0, .int .u8 0, .slice none 0 0] 27)).alloc (Obj.cells #[.slice none 0 0] 42)).alloc (Obj.cells #[.slice none 0 0] 42) = W := ⟨_, rfl⟩
  have hb : Below w.heap.size w W := by rw [← hW]; exact (((Below.refl _ _).alloc (Nat.le_refl _) _).alloc (by simp) _ |>.alloc (by simp; omega) _).alloc (by simp; omega) _
  have hsz : W.heap.size = w.heap.size + 1 + 1 + 1 + 1 := by rw [← hW]; simp
  have hz : Blk W w.heap.size 27 #[.int .u8 t.k, .int .i64 t.n, .int .i64 t.v, .int .u8 t.c, .slice A m cp] := by
    rw [← hW]; exact (((blk_new w _ _).alloc _).alloc _).alloc _
  have hy : Blk W (w.heap.size + 1) 27 #[.int .u8 0, .int .i64 0, .int .i64 0, .int .u8 0, .slice none 0 0] := by
    rw [← hW]; have := ((blk_new (w.alloc (Obj.cells #[.int .u8 t.k, .int .i64 t.n, .int .i64 t.v, .int .u8 t.c, .slice A m cp] 27)) #[.int .u8 0, .int .i64 0, .int .i64 0, .int .u8 0, .slice none 0 0] 27).alloc (Obj.cells #[.slice none 0 0] 42)).alloc (Obj.cells #[.slice none 0 0] 42)
    rwa [World.size_alloc] at this
  have hx : Blk W (w.heap.size + 1 + 1) 42 #[.slice none 0 0] := by
    rw [← hW]; have := (blk_new ((w.alloc (Obj.cells #[.int .u8 t.k, .int .i64 t.n, .int .i64 t.v, .int .u8 t.c, .slice A m cp] 27)).alloc (Obj.cells #[.int .u8 0, .int .i64 0, .int .i64 0, .int .u8 0, .slice none 0 0] 27)) #[.slice none 0 0] 42).alloc (Obj.cells #[.slice none 0 0] 42)
    rwa [World.size_alloc, World.size_alloc] at this
  have hq : Blk W (w.heap.size + 1 + 1 + 1) 42 #[.slice none 0 0] := by
    rw [← hW]; have := blk_new (((w.alloc (Obj.cells #[.int .u8 t.k, .int .i64 t.n, .int .i64 t.v, .int .u8 t.c, .slice A m cp] 27)).alloc (Obj.cells #[.int .u8 0, .int .i64 0, .int .i64 0, .int .u8 0, .slice none 0 0] 27)).alloc (Obj.cells #[.slice none 0 0] 42)) #[.slice none 0 0] 42
    rwa [World.size_alloc, World.size_alloc, World.size_alloc] at this
  have hl0 := hl.below hb
  have hv := vars_any t A m cp W (hl0.more hb.size) (by have := vars_few hm; omega) (by have := mults_few hm; omega)
  have hlv : RetVs (varsT t) (multsT t) W = RetVs (varsT t) (multsT t) W := rfl
  obtain ⟨L1, hL1⟩ : ∃ L, varsT t = L := ⟨_, rfl⟩
  obtain ⟨L2, hL2⟩ : ∃ L, multsT t = L := ⟨_, rfl⟩
  have hC : canT t = turnT (fun n => some (plainV (idxN L1 n))) (fun v => (idxN L2 v, 0)) t := by rw [← hL1, ← hL2]; rfl
  rw [hL1, hL2] at hv ⊢
  have e0 := hz.cell 0
  have e1 := hz.cell 1
  have e2 := hz.cell 2
  have e3 := hz.cell 3
  have e4 := hz.cell 4
  have HW := Lib.hid hW
  have Hb := Lib.hid hb
  have Hsz := Lib.hid hsz
  have Hz := Lib.hid hz
  have Hy := Lib.hid hy
  have Hx := Lib.hid hx
  have Hq := Lib.hid hq
  have HL := Lib.hid hl0
  have Hv := Lib.hid hv
  have HC := Lib.hid hC
  have HM := Lib.hid hm
  clear hW hb hsz hz hy hx hq hl0 hl hv hC hL1 hL2 hlv hm
  go_enter Tryd.func30, Tryd.ntmps30
  go_wp2_with fail
  rw [HW.out]
  go_wp2_with fail
  refine Hv.out.mono ?_; rintro e w1 ⟨A1, n1, c1, A2, n2, c2, rfl, ho1, ho2, hne, hb1⟩
  have hx1 := Hx.out.below hb1 Hx.out.lt
  have hq1 := Hq.out.below hb1 Hq.out.lt
  have x0 := hx1.cell 0
  have x1 := hx1.frozen 0
  have q0 := hq1.cell 0
  have q1 := (hq1.other (g' := w.heap.size + 1 + 1) (by omega) 0 (.slice A1 n1 c1)).frozen 0
  have q0' := (hq1.other (g' := w.heap.size + 1 + 1) (by omega) 0 (.slice A1 n1 c1)).cell 0
  have hz1 := ((Hz.out.below hb1 Hz.out.lt).other (g' := w.heap.size + 1 + 1) (by omega) 0 (.slice A1 n1 c1)).other (g' := w.heap.size + 1 + 1 + 1) (by omega) 0 (.slice A2 n2 c2)
  have hy1 := ((Hy.out.below hb1 Hy.out.lt).other (g' := w.heap.size + 1 + 1) (by omega) 0 (.slice A1 n1 c1)).other (g' := w.heap.size + 1 + 1 + 1) (by omega) 0 (.slice A2 n2 c2)
  have hx2 : Blk ((w1.setCell ⟨w.heap.size + 1 + 1, 0, none⟩ (.slice A1 n1 c1)).setCell ⟨w.heap.size + 1 + 1 + 1, 0, none⟩ (.slice A2 n2 c2)) (w.heap.size + 1 + 1) 42 #[.slice A1 n1 c1] := (hx1.set_ 0 (.slice A1 n1 c1)).other (g' := w.heap.size + 1 + 1 + 1) (by omega) 0 (.slice A2 n2 c2)
  have hq2 : Blk ((w1.setCell ⟨w.heap.size + 1 + 1, 0, none⟩ (.slice A1 n1 c1)).setCell ⟨w.heap.size + 1 + 1 + 1, 0, none⟩ (.slice A2 n2 c2)) (w.heap.size + 1 + 1 + 1) 42 #[.slice A2 n2 c2] := (hq1.other (g' := w.heap.size + 1 + 1) (by omega) 0 (.slice A1 n1 c1)).set_ 0 (.slice A2 n2 c2)
  have hle1 : w.heap.size ≤ w.heap.size + 1 + 1 := by omega
  have hle2 : w.heap.size ≤ w.heap.size + 1 + 1 + 1 := by omega
  have hb2 := ((Hb.out.trans (hb1.mono Hb.out.size)).setCell (p := ⟨w.heap.size + 1 + 1, 0, none⟩) hle1 (.slice A1 n1 c1)).setCell (p := ⟨w.heap.size + 1 + 1 + 1, 0, none⟩) hle2 (.slice A2 n2 c2)
  have hs2 := Hsz.out
  have o1 := (ownsRow_setCell_below (a := ⟨w.heap.size + 1 + 1 + 1, 0, none⟩) (ownsRow_setCell_below (a := ⟨w.heap.size + 1 + 1, 0, none⟩) ho1 (by show w.heap.size + 1 + 1 < W.heap.size; omega) (.slice A1 n1 c1)) (by show w.heap.size + 1 + 1 + 1 < W.heap.size; omega) (.slice A2 n2 c2))
  have o2 := (ownsRow_setCell_below (a := ⟨w.heap.size + 1 + 1 + 1, 0, none⟩) (ownsRow_setCell_below (a := ⟨w.heap.size + 1 + 1, 0, none⟩) ho2 (by show w.heap.size + 1 + 1 < W.heap.size; omega) (.slice A1 n1 c1)) (by show w.heap.size + 1 + 1 + 1 < W.heap.size; omega) (.slice A2 n2 c2))
  have r1 := RdI.of_own o1
  have r2 := RdI.of_own o2
  have O1 := Lib.hid o1
  have O2 := Lib.hid o2
  have hl1 : TysV ((w1.setCell ⟨w.heap.size + 1 + 1, 0, none⟩ (.slice A1 n1 c1)).setCell ⟨w.heap.size + 1 + 1 + 1, 0, none⟩ (.slice A2 n2 c2)) w.heap.size A m cp t.l := (HL.out.below (hb1.mono Hb.out.size)).keep fun p hp => by
    rw [World.cell?_setCell_other _ _ _ _ (fun e => by rw [← e] at hp; simp at hp; omega), World.cell?_setCell_other _ _ _ _ (fun e => by rw [← e] at hp; simp at hp; omega)]
  have Hz1 := Lib.hid hz1
  have Hy1 := Lib.hid hy1
  have Hx2 := Lib.hid hx2
  have Hq2 := Lib.hid hq2
  have Hb2 := Lib.hid hb2
  have R1 := Lib.hid r1
  have R2 := Lib.hid r2
  have HL1 := Lib.hid hl1
  clear o1 o2 hx1 hq1 hz1 hy1 hx2 hq2 hb2 r1 r2 hl1 hb1 ho1 ho2 hne Hx Hq Hz Hy Hv HL hs2 e0 e1 e2 e3 e4
  go_wp2_with fail
  generalize (w1.setCell ⟨w.heap.size + 1 + 1, 0, none⟩ (.slice A1 n1 c1)).setCell ⟨w.heap.size + 1 + 1 + 1, 0, none⟩ (.slice A2 n2 c2) = w2 at Hz1 Hy1 Hx2 Hq2 Hb2 R1 R2 O1 O2 HL1 ⊢
  clear x0 x1 q0 q1 q0'
  have e0 := Hz1.out.cell 0
  have e1 := Hz1.out.cell 1
  have e2 := Hz1.out.cell 2
  have e3 := Hz1.out.cell 3
  have e4 := Hz1.out.cell 4
  have x0 := Hx2.out.cell 0
  have q0 := Hq2.out.cell 0
  have hbS : Below w2.heap.size w2 w2.drew := Below.drew (Below.refl _ _)
  have hs2 : w.heap.size + 1 + 1 + 1 < w2.heap.size := Hq2.out.lt
  have hd : Below w2.heap.size w2 w2.drew := hbS
  have hq := turnC (fun n => some (plainV (idxN L1 n))) (fun v => (idxN L2 v, 0)) (w.heap.size + 1 + 1) (w.heap.size + 1 + 1 + 1) (nodes t) t (Nat.le_refl _) HM.out A m cp w2.drew ((HL1.out.more (by omega)).fresh hd)
    (fun n w' h0 hb => canon1_any _ A1 n1 c1 L1 n w' ((((Hx2.out.below hd Hx2.out.lt).below hb (Nat.lt_of_lt_of_le Hx2.out.lt hd.size)).cell 0)) ((R1.out.fresh hd).fresh hb))
    (fun n w' h0 hb => canon2_any _ A2 n2 c2 L2 n w' ((((Hq2.out.below hd Hq2.out.lt).below hb (Nat.lt_of_lt_of_le Hq2.out.lt hd.size)).cell 0)) ((R2.out.fresh hd).fresh hb))
  rw [← HC.out] at hq
  obtain ⟨u, hu⟩ : ∃ u, canT t = u := ⟨_, rfl⟩
  rw [hu] at hq ⊢
  have Hq := Lib.hid hq
  have Hu := Lib.hid hu
  clear hd hq hu
  go_region_held3 (fun w' => w'.cell? ⟨w.heap.size, 0, none⟩ = some (.int .u8 t.k) ∧ w'.cell? ⟨w.heap.size, 1, none⟩ = some (.int .i64 t.n) ∧ w'.cell? ⟨w.heap.size, 2, none⟩ = some (.int .i64 t.v) ∧ w'.cell? ⟨w.heap.size, 3, none⟩ = some (.int .u8 t.c) ∧ w'.cell? ⟨w.heap.size, 4, none⟩ = some (.slice A m cp) ∧ w'.cell? ⟨w.heap.size + 1 + 1, 0, none⟩ = some (.slice A1 n1 c1) ∧ w'.cell? ⟨w.heap.size + 1 + 1 + 1, 0, none⟩ = some (.slice A2 n2 c2))
    (first | (go_keep; done) | with_reducible exact k0 | with_reducible exact k7 | with_reducible exact k8)
    ((first
      | (go_at_call 58; refine Hq.out.mono ?_; rintro e wt ⟨A5, n5, c5, rfl, ht5, hb5⟩; replace hbS := hbS.trans (hb5.mono hbS.size); have Ht5 := Lib.hid ht5; have hzt := Hz1.out.below hbS Hz1.out.lt; have z0 := hzt.cell 0; have z1 := hzt.cell 1; have z2 := hzt.cell 2; have z3 := hzt.cell 3; have z4 := hzt.cell 4; have Hyt := Lib.hid (Hy1.out.below hbS Hy1.out.lt); have HbS := Lib.hid hbS; have hxt := Hx2.out.below hbS Hx2.out.lt; have hqt := Hq2.out.below hbS Hq2.out.lt; have hyt := Hy1.out.below hbS Hy1.out.lt; have fx := hxt.frozen 0; have fq := hqt.frozen 0; have fy0 := hyt.frozen 0; have fy1 := hyt.frozen 1; have fy2 := hyt.frozen 2; have fy3 := hyt.frozen 3; have fy4 := hyt.frozen 4; have cx := hxt.cell 0; have cq := hqt.cell 0; have cy0 := hyt.cell 0; have cy1 := hyt.cell 1; have cy2 := hyt.cell 2; have cy3 := hyt.cell 3; have cy4 := hyt.cell 4; have k0 : wt.cell? ⟨w.heap.size, 0, none⟩ = some (.int .u8 t.k) ∧ wt.cell? ⟨w.heap.size, 1, none⟩ = some (.int .i64 t.n) ∧ wt.cell? ⟨w.heap.size, 2, none⟩ = some (.int .i64 t.v) ∧ wt.cell? ⟨w.heap.size, 3, none⟩ = some (.int .u8 t.c) ∧ wt.cell? ⟨w.heap.size, 4, none⟩ = some (.slice A m cp) ∧ wt.cell? ⟨w.heap.size + 1 + 1, 0, none⟩ = some (.slice A1 n1 c1) ∧ wt.cell? ⟨w.heap.size + 1 + 1 + 1, 0, none⟩ = some (.slice A2 n2 c2) := ⟨z0, z1, z2, z3, z4, cx, cq⟩; have k7 := keep_x (keep_o (v0 := .int .u8 u.k) (v1 := .int .i64 u.n) (v2 := .int .i64 u.v) (v3 := .int .u8 u.c) (v4 := .slice A5 n5 c5) k0); have k8 := keep_q k7; clear ht5 hb5 hxt hqt hyt hzt hbS)))
  all_goals
    have hg1 : w.heap.size ≤ w.heap.size + 1 := by omega
    have hWs : W.heap.size = w.heap.size + 1 + 1 + 1 + 1 := Hsz.out
    have hbt := Hb2.out.trans (HbS.out.mono Hb2.out.size)
    have p1 := ownsRow_beyond O1.out HbS.out
    have p2 := ownsRow_beyond O2.out HbS.out
    have hxt := Hx2.out.below HbS.out Hx2.out.lt
    have hqt := Hq2.out.below HbS.out Hq2.out.lt
    have hs9 := ((((Hyt.out.set_ 0 (.int .u8 (u.k))).set_ 1 (.int .i64 (u.n))).set_ 2 (.int .i64 (u.v))).set_ 3 (.int .u8 (u.c))).set_ 4 (.slice A5 n5 c5)
    have hb9 := ((((hbt.setCell (p := ⟨w.heap.size + 1, 0, none⟩) hg1 (.int .u8 (u.k))).setCell (p := ⟨w.heap.size + 1, 1, none⟩) hg1 (.int .i64 (u.n))).setCell (p := ⟨w.heap.size + 1, 2, none⟩) hg1 (.int .i64 (u.v))).setCell (p := ⟨w.heap.size + 1, 3, none⟩) hg1 (.int .u8 (u.c))).setCell (p := ⟨w.heap.size + 1, 4, none⟩) hg1 (.slice A5 n5 c5)
    generalize hW9 : ((((((wt).setCell ⟨w.heap.size + 1, 0, none⟩ (.int .u8 (u.k))).setCell ⟨w.heap.size + 1, 1, none⟩ (.int .i64 (u.n))).setCell ⟨w.heap.size + 1, 2, none⟩ (.int .i64 (u.v))).setCell ⟨w.heap.size + 1, 3, none⟩ (.int .u8 (u.c))).setCell ⟨w.heap.size + 1, 4, none⟩ (.slice A5 n5 c5)) = W9 at hs9 hb9 ⊢
    replace hs9 : Blk W9 (w.heap.size + 1) 27 #[.int .u8 (u.k), .int .i64 (u.n), .int .i64 (u.v), .int .u8 (u.c), .slice A5 n5 c5] := hs9
    have d0' : W9.cell? ⟨w.heap.size + 1, 0, none⟩ = some (.int .u8 (u.k)) := hs9.cell 0
    have d1' : W9.cell? ⟨w.heap.size + 1, 1, none⟩ = some (.int .i64 (u.n)) := hs9.cell 1
    have d2' : W9.cell? ⟨w.heap.size + 1, 2, none⟩ = some (.int .i64 (u.v)) := hs9.cell 2
    have d3' : W9.cell? ⟨w.heap.size + 1, 3, none⟩ = some (.int .u8 (u.c)) := hs9.cell 3
    have d4' : W9.cell? ⟨w.heap.size + 1, 4, none⟩ = some (.slice A5 n5 c5) := hs9.cell 4
    have hx9 := hxt.other (g' := w.heap.size + 1) (by omega) 0 (.int .u8 u.k) |>.other (g' := w.heap.size + 1) (by omega) 1 (.int .i64 u.n) |>.other (g' := w.heap.size + 1) (by omega) 2 (.int .i64 u.v) |>.other (g' := w.heap.size + 1) (by omega) 3 (.int .u8 u.c) |>.other (g' := w.heap.size + 1) (by omega) 4 (.slice A5 n5 c5)
    have hq9 := hqt.other (g' := w.heap.size + 1) (by omega) 0 (.int .u8 u.k) |>.other (g' := w.heap.size + 1) (by omega) 1 (.int .i64 u.n) |>.other (g' := w.heap.size + 1) (by omega) 2 (.int .i64 u.v) |>.other (g' := w.heap.size + 1) (by omega) 3 (.int .u8 u.c) |>.other (g' := w.heap.size + 1) (by omega) 4 (.slice A5 n5 c5)
    have hlt : ∀ (W' : World) (i : Nat) (v : Value) (e : TypeId) (sz : Nat) (v2 : Value) (n : Nat) (xs : List Value), W'.ownsRow W.heap.size e sz v2 n xs → (W'.setCell ⟨w.heap.size + 1, i, none⟩ v).ownsRow W.heap.size e sz v2 n xs := fun W' i v e sz v2 n xs h => ownsRow_setCell_below h (by show w.heap.size + 1 < W.heap.size; omega) v
    have p19 := hlt _ 4 (.slice A5 n5 c5) _ _ _ _ _ (hlt _ 3 (.int .u8 u.c) _ _ _ _ _ (hlt _ 2 (.int .i64 u.v) _ _ _ _ _ (hlt _ 1 (.int .i64 u.n) _ _ _ _ _ (hlt _ 0 (.int .u8 u.k) _ _ _ _ _ p1))))
    have p29 := hlt _ 4 (.slice A5 n5 c5) _ _ _ _ _ (hlt _ 3 (.int .u8 u.c) _ _ _ _ _ (hlt _ 2 (.int .i64 u.v) _ _ _ _ _ (hlt _ 1 (.int .i64 u.n) _ _ _ _ _ (hlt _ 0 (.int .u8 u.k) _ _ _ _ _ p2))))
    have hc : ∀ (W' : World) (i : Nat) (v : Value) (p : Addr), w2.drew.heap.size ≤ p.block → (W'.setCell ⟨w.heap.size + 1, i, none⟩ v).cell? p = W'.cell? p := fun W' i v p hp => World.cell?_setCell_other _ _ _ _ (fun e => by rw [← e] at hp; simp at hp; omega)
    have hT9 : TysS W9 (fun b => w2.drew.heap.size ≤ b ∧ b < W9.heap.size) A5 n5 c5 u.l := by
      rw [← hW9]
      refine Ht5.out.keep (fun b hb => ⟨hb.1, by simpa using hb.2⟩) fun p hp => ?_
      rw [hc _ _ _ _ hp.1, hc _ _ _ _ hp.1, hc _ _ _ _ hp.1, hc _ _ _ _ hp.1, hc _ _ _ _ hp.1]
    rw [hW9] at hx9 hq9 p19 p29
    have hx10 : Blk ((W9.setCell ⟨w.heap.size + 1 + 1, 0, none⟩ (.slice A1 n1 c1)).setCell ⟨w.heap.size + 1 + 1 + 1, 0, none⟩ (.slice A2 n2 c2)) (w.heap.size + 1 + 1) 42 #[.slice A1 n1 c1] := (hx9.set_ 0 (.slice A1 n1 c1)).other (g' := w.heap.size + 1 + 1 + 1) (by omega) 0 (.slice A2 n2 c2)
    have hq10 : Blk ((W9.setCell ⟨w.heap.size + 1 + 1, 0, none⟩ (.slice A1 n1 c1)).setCell ⟨w.heap.size + 1 + 1 + 1, 0, none⟩ (.slice A2 n2 c2)) (w.heap.size + 1 + 1 + 1) 42 #[.slice A2 n2 c2] := (hq9.other (g' := w.heap.size + 1 + 1) (by omega) 0 (.slice A1 n1 c1)).set_ 0 (.slice A2 n2 c2)
    have hs10 := (hs9.other (g' := w.heap.size + 1 + 1) (by omega) 0 (.slice A1 n1 c1)).other (g' := w.heap.size + 1 + 1 + 1) (by omega) 0 (.slice A2 n2 c2)
    have hb10 := (hb9.setCell (p := ⟨w.heap.size + 1 + 1, 0, none⟩) hle1 (.slice A1 n1 c1)).setCell (p := ⟨w.heap.size + 1 + 1 + 1, 0, none⟩) hle2 (.slice A2 n2 c2)
    have p10 := RdI.of_own (ownsRow_setCell_below (a := ⟨w.heap.size + 1 + 1 + 1, 0, none⟩) (ownsRow_setCell_below (a := ⟨w.heap.size + 1 + 1, 0, none⟩) p19 (by show w.heap.size + 1 + 1 < W.heap.size; omega) (.slice A1 n1 c1)) (by show w.heap.size + 1 + 1 + 1 < W.heap.size; omega) (.slice A2 n2 c2))
    have p20 := RdI.of_own (ownsRow_setCell_below (a := ⟨w.heap.size + 1 + 1 + 1, 0, none⟩) (ownsRow_setCell_below (a := ⟨w.heap.size + 1 + 1, 0, none⟩) p29 (by show w.heap.size + 1 + 1 < W.heap.size; omega) (.slice A1 n1 c1)) (by show w.heap.size + 1 + 1 + 1 < W.heap.size; omega) (.slice A2 n2 c2))
    have hT10 : TysV ((W9.setCell ⟨w.heap.size + 1 + 1, 0, none⟩ (.slice A1 n1 c1)).setCell ⟨w.heap.size + 1 + 1 + 1, 0, none⟩ (.slice A2 n2 c2)) ((W9.setCell ⟨w.heap.size + 1 + 1, 0, none⟩ (.slice A1 n1 c1)).setCell ⟨w.heap.size + 1 + 1 + 1, 0, none⟩ (.slice A2 n2 c2)).heap.size A5 n5 c5 u.l := by
      refine TysS.lt (S := fun b => w2.drew.heap.size ≤ b ∧ b < W9.heap.size) (hT9.keep (fun b hb => hb) fun p hp => ?_) (fun b hb => by simpa using hb.2)
      have hp1 := hp.1
      rw [World.cell?_setCell_other _ _ _ _ (fun e => by rw [← e] at hp1; simp at hp1; omega), World.cell?_setCell_other _ _ _ _ (fun e => by rw [← e] at hp1; simp at hp1; omega)]
    generalize (W9.setCell ⟨w.heap.size + 1 + 1, 0, none⟩ (.slice A1 n1 c1)).setCell ⟨w.heap.size + 1 + 1 + 1, 0, none⟩ (.slice A2 n2 c2) = W10 at hx10 hq10 hs10 hb10 p10 p20 hT10 ⊢
    have t0 := hs10.cell 0
    have t1 := hs10.cell 1
    have t2 := hs10.cell 2
    have t3 := hs10.cell 3
    have t4 := hs10.cell 4
    have t5 := hx10.cell 0
    have t6 := hq10.cell 0
    have HR : Hid (RetCan u L1 L2 w (.returned (.tuple #[.agg #[.int .u8 u.k, .int .i64 u.n, .int .i64 u.v, .int .u8 u.c, .slice A5 n5 c5], .slice A1 n1 c1, .slice A2 n2 c2])) W10) := Lib.hid ⟨A5, n5, c5, A1, n1, c1, A2, n2, c2, rfl, hT10, p10, p20, hb10⟩
    clear d0' d1' d2' d3' d4' hx9 hq9 hlt p19 p29 hc hT9 hx10 hq10 hs10 hb10 p10 p20 hT10 hs9 hb9 hW9 p1 p2 hxt hqt hbt k0 k7 k8 z0 z1 z2 z3 z4 cx cq cy0 cy1 cy2 cy3 cy4 fx fq fy0 fy1 fy2 fy3 fy4
    go_wp2_with fail
    exact bodyPost_ret (v := .tuple #[.agg #[.int .u8 u.k, .int .i64 u.n, .int .i64 u.v, .int .u8 u.c, .slice A5 n5 c5], .slice A1 n1 c1, .slice A2 n2 c2]) (by simp [results, Tryd.results30, go_sem, t0, t1, t2, t3, t4, t5, t6]) rfl (by rw [Hu.out]; exact HR.out)
end Go.Proofs.YtidamlkekgnhgaaDoor

