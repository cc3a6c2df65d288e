/- The contract of slices.DeleteFunc at terms. -/
import Derived.Test.YtimlbpjdgnapoaaTermE
namespace Go.Proofs.Ytimlbpjdgnapoaa
set_option linter.unusedVariables false
set_option linter.unusedSimpArgs false
open Go.RowKit

theorem C3.cut {w : World} {B : Nat} {cs : List Value} {x m : Nat} {t : TermD} (h : C3 w B cs x t) (hx : x < m) : C3 w B (cs.take (m * 3)) x t := by
  obtain ⟨A, n, c, e0, e1, e2, hr⟩ := h
  exact ⟨A, n, c, by rw [List.getElem?_take, if_pos (by omega)]; exact e0, by rw [List.getElem?_take, if_pos (by omega)]; exact e1, by rw [List.getElem?_take, if_pos (by omega)]; exact e2, hr⟩
theorem C3.congr {w : World} {B : Nat} {cs cs' : List Value} {x : Nat} {t : TermD} (h : C3 w B cs x t) (he : ∀ k, x * 3 ≤ k → k < x * 3 + 3 → cs'[k]? = cs[k]?) : C3 w B cs' x t := by
  obtain ⟨A, n, c, e0, e1, e2, hr⟩ := h
  exact ⟨A, n, c, by rw [he _ (by omega) (by omega)]; exact e0, by rw [he _ (by omega) (by omega)]; exact e1, by rw [he _ (by omega) (by omega)]; exact e2, hr⟩
theorem C3.cells {w : World} {B base : Nat} {e : TypeId} {g n c : Nat} {cs : List Value} {x : Nat} {t : TermD} (h : C3 w B cs x t) (hown : w.ownsRow base e 3 (.slice (some ⟨g, 0, none⟩) n c) n cs) (hx : x < n) :
    ∃ A m d, w.cell? ⟨g, x * 3, none⟩ = some (.bool t.never) ∧ w.cell? ⟨g, x * 3 + 1, none⟩ = some (.int .u8 t.c) ∧ w.cell? ⟨g, x * 3 + 2, none⟩ = some (.slice A m d) ∧ RdI .i64 w B A m d t.vars := by
  obtain ⟨A, m, d, e0, e1, e2, hr⟩ := h
  exact ⟨A, m, d, by rw [hown.cellAt _ (by omega)]; exact e0, by rw [hown.cellAt _ (by omega)]; exact e1, by rw [hown.cellAt _ (by omega)]; exact e2, hr⟩

set_option maxHeartbeats 1000000 in
theorem delete_any (F : Nat) (p : TermD → Bool) (hf : Enters F) (hp : Pred F p) (base B n : Nat) (v : Value) (ts : List TermD) (w : World) (hown : OwnT w base B v n ts) (hB : B ≤ base) (hbase : base ≤ w.heap.size)
    (hform : v = .slice none 0 0 ∨ ∃ g c, v = .slice (some ⟨g, 0, none⟩) n c) :
    Calls Try.prog 70 #[v, .func (.func F) #[] #[]] w (DelT (ts.filter fun t => !p t) base B w) := by
  have Hown := Lib.hid hown
  have hlen := hown.1
  have Hlen := Lib.hid hlen
  have Hp := Lib.hid hp
  clear hlen hp
  -- is there one to be deleted?
  cases hfi : ts.findIdx? p with
  | none =>
    have hnone : ∀ t ∈ ts, p t = false := by
      intro t ht
      rw [List.findIdx?_eq_none_iff] at hfi
      exact hfi t ht
    have hfil : (ts.filter fun t => !p t) = ts := by
      rw [List.filter_eq_self]
      intro t ht
      rw [hnone t ht]; rfl
    have hidx : idxF p ts = -1 := by unfold idxF; rw [hfi]
    rw [hfil]
    have Hidx := Lib.hid hidx
    clear hfil hidx hnone hfi
    rcases hform with rfl | ⟨g, c, rfl⟩
    · have ht := (hown.terms (A := none) (m := 0) (c := 0) (Nat.le_trans hB hbase)).2
      have hn := (hown.terms (A := none) (m := 0) (c := 0) (Nat.le_trans hB hbase)).1
      subst hn
      clear hown
      go_enter Try.func70, Try.ntmps70
      go_wp2_with fail
      refine (index_any F p hf Hp.out _ _ _ ts _ ht).mono ?_; rintro e w1 ⟨rfl, hb1⟩
      rw [Hidx.out]
      go_wp2_with fail
      go_ret
      exact ⟨_, 0, rfl, .inl ⟨rfl, rfl⟩, ⟨Hlen.out, [], World.ownsRow_nil _ _ _ _, fun i hi => absurd hi (by have := Hlen.out; omega)⟩, hb1.mono hbase⟩
    · have ht := (hown.terms (Nat.le_trans hB hbase)).2
      clear hown
      go_enter Try.func70, Try.ntmps70
      go_wp2_with fail
      refine (index_any F p hf Hp.out _ _ _ ts _ ht).mono ?_; rintro e w1 ⟨rfl, hb1⟩
      rw [Hidx.out]
      go_wp2_with fail
      go_ret
      obtain ⟨_, cs, ho, h3⟩ := Hown.out
      exact ⟨_, n, rfl, .inr ⟨g, c, rfl⟩, ⟨Hlen.out, cs, ho.kept (below_grown hb1) (by simp [Value.ownBlock]), fun i hi => (h3 i hi).keep fun q hq => hb1.cell (by omega)⟩, hb1.mono hbase⟩
  | some i0 =>
    have hidx : idxF p ts = (i0 : Int) := by unfold idxF; rw [hfi]
    rw [List.findIdx?_eq_some_iff_getElem] at hfi
    obtain ⟨hi0, hpi, hbef⟩ := hfi
    have hin : i0 < n := by rw [← Hlen.out]; exact hi0
    obtain ⟨g, c, rfl⟩ : ∃ g c, v = .slice (some ⟨g, 0, none⟩) n c := by
      rcases hform with rfl | h
      · have := (hown.terms (A := none) (m := 0) (c := 0) (Nat.le_trans hB hbase)).1
        omega
      · exact h
    clear hform
    obtain ⟨_, hbg, hgl, hnc, hcm⟩ := hown.form
    unfold maxLen at hcm
    have ht := (hown.terms (Nat.le_trans hB hbase)).2
    have hk0 : ((ts.take i0).filter fun t => !p t) = ts.take i0 := by
      rw [List.filter_eq_self]
      intro t ht
      obtain ⟨j, hj, rfl⟩ := List.getElem_of_mem ht
      rw [List.getElem_take]
      have := hbef j (by rw [List.length_take] at hj; omega)
      simpa using this
    have hk1 : ((ts.take (i0 + 1)).filter fun t => !p t) = ts.take i0 := by
      rw [filter_take_succ _ _ _ hi0, hk0, hpi]
      simp
    have Hk1 := Lib.hid hk1
    have Hidx := Lib.hid hidx
    have hst := hown.2
    have Hst := Lib.hid hst
    clear hk0 hk1 hidx hbef hpi hown hst
    unfold Enters at hf
    go_enter Try.func70, Try.ntmps70
    go_wp2_with fail
    refine (index_any F p hf Hp.out _ _ _ ts _ ht).mono ?_; rintro e w1 ⟨rfl, hb1⟩
    rw [Hidx.out]
    have hne1 : ((i0 : Int) == -1) = false := beq_eq_false_iff_ne.2 (by omega)
    go_wp2_with fail
    obtain ⟨cs0, ho0, h30⟩ := Hst.out
    have ho1 := ho0.kept (below_grown hb1) (by simp [Value.ownBlock])
    have h31 : ∀ i (h : i < ts.length), C3 w1 B cs0 i ts[i] := fun i hi => (h30 i hi).keep fun q hq => hb1.cell (by omega)
    clear ho0 h30 Hst Hown ht
    go_loopg [5, 6] (n - (i0 + 1)) (fun gg a b wr => ∃ (i j : Nat) (cs : List Value), j ≤ n ∧ i < j ∧ gg = n - j ∧ a = .int .i64 i ∧ b = .int .i64 j ∧ i = ((ts.take j).filter fun t => !p t).length ∧
      wr.ownsRow base 37 3 (.slice (some ⟨g, 0, none⟩) n c) n cs ∧ (∀ x (h : x < ((ts.take j).filter fun t => !p t).length), C3 wr B cs x ((ts.take j).filter fun t => !p t)[x]) ∧ (∀ y (h : y < ts.length), j ≤ y → C3 wr B cs y ts[y]) ∧ Below base w wr ∧ w.heap.size ≤ wr.heap.size)
    case atStart =>
      refine ⟨i0, i0 + 1, cs0, by omega, by omega, rfl, rfl, by go_num, ?_, ho1, ?_, fun y hy _ => h31 y hy, hb1.mono hbase, hb1.size⟩
      · rw [Hk1.out, List.length_take]; omega
      · rw [Hk1.out]
        intro x hx
        have hx' : x < ts.length := by rw [List.length_take] at hx; omega
        rw [List.getElem_take]
        exact h31 x hx'
    case round =>
      obtain ⟨i, j, cs, hj, hij, rfl, rfl, rfl, hi, ho, hpre, hsuf, hbel, hsz⟩ := hrel
      have Ho := Lib.hid ho
      have Hpre := Lib.hid hpre
      have Hsuf := Lib.hid hsuf
      have Hi := Lib.hid hi
      clear hpre hsuf hi ho ho1 h31
      by_cases hlt : j < n
      · have hj' : j < ts.length := by rw [Hlen.out]; exact hlt
        obtain ⟨A', m', d', c0, c1, c2, hr'⟩ := (Hsuf.out j hj' (Nat.le_refl _)).cells Ho.out hlt
        have Hr := Lib.hid hr'
        clear hr'
        go_wp2_with fail
        have hra := Hr.out.below ((Below.refl B wr).alloc (Nat.le_trans hB (Nat.le_trans hbase hsz)) (Obj.cells #[.bool ts[j].never, .int .u8 ts[j].c, .slice A' m' d'] 37))
        refine (Hp.out A' m' d' ts[j] _ B hra (by simp; omega)).mono ?_; rintro e w2 ⟨rfl, hb2⟩
        have hb2' := hb2
        simp only [World.size_alloc] at hb2'
        have hvb : Blk w2 wr.heap.size 37 #[.bool ts[j].never, .int .u8 ts[j].c, .slice A' m' d'] := by
          show w2.heap[wr.heap.size]? = _
          rw [hb2'.block _ (Nat.lt_succ_self _)]
          exact heap_alloc_new wr _
        have ho2 := (Ho.out.alloc (Obj.cells #[.bool ts[j].never, .int .u8 ts[j].c, .slice A' m' d'] 37)).kept (below_grown hb2) (by simp [Value.ownBlock])
        have hbw : Below wr.heap.size wr w2 := ((Below.refl wr.heap.size wr).alloc (Nat.le_refl _) (Obj.cells #[.bool ts[j].never, .int .u8 ts[j].c, .slice A' m' d'] 37)).trans (hb2.mono (by simp))
        have hkB : ∀ q : Addr, q.block < B → w2.cell? q = wr.cell? q := fun q hq => hbw.cell (by omega)
        have HkB := Lib.hid hkB
        have Ho2 := Lib.hid ho2
        have hsz2 : w.heap.size ≤ w2.heap.size := Nat.le_trans hsz hbw.size
        have hbel2 : Below base w w2 := hbel.trans (hbw.mono (by omega))
        have Hr2 := Lib.hid (Hr.out.keep hkB)
        clear hb2 hb2' ho2 hkB hra hbw hbel hsz c0 c1 c2
        have hfs := filter_take_succ (fun t => !p t) ts j hj'
        cases hpj : p ts[j]
        · rw [hpj] at hfs
          simp only [Bool.not_false, if_true] at hfs
          have Hfs := Lib.hid hfs
          clear hfs hpj
          have hin2 : i < n := by omega
          have hcl : cs.length = n * 3 := Ho2.out.1
          have d0 : w2.cell? ⟨wr.heap.size, 0, none⟩ = some (.bool ts[j].never) := hvb.cell 0
          have d1 : w2.cell? ⟨wr.heap.size, 1, none⟩ = some (.int .u8 ts[j].c) := hvb.cell 1
          have d2 : w2.cell? ⟨wr.heap.size, 2, none⟩ = some (.slice A' m' d') := hvb.cell 2
          obtain ⟨y0, x0⟩ : ∃ y, w2.cell? ⟨g, i * 3, none⟩ = some y := ⟨_, by rw [Ho2.out.cellAt _ (by omega)]; exact List.getElem?_eq_getElem (by omega)⟩
          obtain ⟨y1, x1⟩ : ∃ y, w2.cell? ⟨g, i * 3 + 1, none⟩ = some y := ⟨_, by rw [Ho2.out.cellAt _ (by omega)]; exact List.getElem?_eq_getElem (by omega)⟩
          obtain ⟨y2, x2⟩ : ∃ y, w2.cell? ⟨g, i * 3 + 2, none⟩ = some y := ⟨_, by rw [Ho2.out.cellAt _ (by omega)]; exact List.getElem?_eq_getElem (by omega)⟩
          have f0 := Ho2.out.frozenAt (i * 3)
          have f1 := Ho2.out.frozenAt (i * 3 + 1)
          have f2 := Ho2.out.frozenAt (i * 3 + 2)
          have Hcl := Lib.hid hcl
          clear hcl hvb
          go_wp2_with fail
          go_roundg (n - (j + 1))
          case measure => omega
          case rel =>
            have hs1 := (Ho2.out.stored (i * 3) (.bool ts[j].never)).1
            have hs2 := (hs1.stored (i * 3 + 1) (.int .u8 ts[j].c)).1
            have hs3 := (hs2.stored (i * 3 + 2) (.slice A' m' d')).1
            have hkeep : ∀ q : Addr, q.block < B → (((w2.setCell ⟨g, i * 3, none⟩ (.bool ts[j].never)).setCell ⟨g, i * 3 + 1, none⟩ (.int .u8 ts[j].c)).setCell ⟨g, i * 3 + 2, none⟩ (.slice A' m' d')).cell? q = w2.cell? q := by
              intro q hq
              rw [World.cell?_setCell_other _ _ _ _ (fun e => by subst e; simp at hq; omega), World.cell?_setCell_other _ _ _ _ (fun e => by subst e; simp at hq; omega), World.cell?_setCell_other _ _ _ _ (fun e => by subst e; simp at hq; omega)]
            have hout : ∀ k, k < i * 3 ∨ i * 3 + 3 ≤ k → (((cs.set (i * 3) (.bool ts[j].never)).set (i * 3 + 1) (.int .u8 ts[j].c)).set (i * 3 + 2) (.slice A' m' d'))[k]? = cs[k]? := by
              intro k hk
              rw [List.getElem?_set_ne (by omega), List.getElem?_set_ne (by omega), List.getElem?_set_ne (by omega)]
            refine ⟨i + 1, j + 1, _, by omega, by omega, rfl, by go_num, by go_num, ?_, hs3, ?_, ?_, ((hbel2.setCell (by exact hbg) _).setCell (by exact hbg) _).setCell (by exact hbg) _, by simpa using hsz2⟩
            · rw [Hfs.out, List.length_append, ← Hi.out]; rfl
            · rw [Hfs.out]
              intro x hx
              rw [List.length_append, ← Hi.out] at hx
              rcases Nat.lt_or_ge x i with h | h
              · rw [List.getElem_append_left (by rw [← Hi.out]; exact h)]
                exact (((Hpre.out x (by rw [← Hi.out]; exact h)).keep HkB.out).keep hkeep).congr fun k h1 h2 => hout k (by omega)
              · have hxi : x = i := by simp at hx; omega
                subst hxi
                rw [List.getElem_append_right (by rw [← Hi.out]; exact Nat.le_refl _)]
                have e0 : (([ts[j]] : List TermD)[x - ((ts.take j).filter fun t => !p t).length]'(by rw [← Hi.out]; simp)) = ts[j] := by
                  have : x - ((ts.take j).filter fun t => !p t).length = 0 := by rw [← Hi.out]; omega
                  simp [this]
                rw [e0]
                have hl := Hcl.out
                exact ⟨A', m', d', by rw [List.getElem?_set_ne (by omega), List.getElem?_set_ne (by omega), List.getElem?_set_self (by omega)], by rw [List.getElem?_set_ne (by omega), List.getElem?_set_self (by simp; omega)], by rw [List.getElem?_set_self (by simp; omega)], Hr2.out.keep hkeep⟩
            · intro y hy hjy
              exact (((Hsuf.out y hy (by omega)).keep HkB.out).keep hkeep).congr fun k h1 h2 => hout k (by omega)
        · rw [hpj] at hfs
          simp only [Bool.not_true, Bool.false_eq_true, if_false, List.append_nil] at hfs
          have Hfs := Lib.hid hfs
          clear hfs hpj hvb
          go_wp2_with fail
          go_roundg (n - (j + 1))
          case measure => omega
          case rel =>
            refine ⟨i, j + 1, cs, by omega, by omega, rfl, rfl, by go_num, ?_, Ho2.out, ?_, fun y hy hjy => (Hsuf.out y hy (by omega)).keep HkB.out, hbel2, hsz2⟩
            · rw [Hfs.out]; exact Hi.out
            · rw [Hfs.out]
              intro x hx
              exact (Hpre.out x hx).keep HkB.out
      · have hjn : j = n := by omega
        subst hjn
        have hall : ts.take j = ts := List.take_of_length_le (by rw [Hlen.out]; exact Nat.le_refl _)
        have Hall := Lib.hid hall
        clear hall
        have hci : ¬ (c = i) := by omega
        have hclr := fun ty => run_clear_cells (P := Try.prog) wr 84 37 ty (.agg #[.bool false, .int .u8 0, .slice none 0 0]) #[.bool false, .int .u8 0, .slice none 0 0] Try.underlying84 Try.zeroValue37 rfl (by simp [Value.oneCell']) (by simp) g (i * 3) (j - i) (c - i) (by omega) (fun k hk => by
          have hk' : k < (j - i) * 3 := hk
          rw [Ho.out.cellAt _ (by omega), List.getElem?_eq_getElem (by rw [Ho.out.1]; omega)]; rfl) (fun k hk => Ho.out.frozenAt _)
        go_wp2_with fail
        go_ret
        obtain ⟨cs', hs1, hs2, hs3⟩ := ownsRow_setCells (Builtin.zeroCells #[.bool false, .int .u8 0, .slice none 0 0] (j - i)).toList cs (i * 3) wr Ho.out
        have hkeep : ∀ q : Addr, q.block < B → (wr.setCells g (i * 3) (Builtin.zeroCells #[.bool false, .int .u8 0, .slice none 0 0] (j - i)).toList).cell? q = wr.cell? q := by
          intro q hq
          rcases Nat.lt_or_ge q.block wr.heap.size with h | h
          · exact World.cell?_of_block (hs3.block q.block h (by simp; omega))
          · omega
        refine ⟨_, i, rfl, .inr ⟨g, c, rfl⟩, ⟨?_, _, ownsRow_cut hs1 (by omega), ?_⟩, hbel.grown hs3 (Nat.le_trans hbase hsz) (fun k hk => by injection hk with hk; omega)⟩
        · rw [← Hall.out]; exact Hi.out.symm
        · intro x hx
          have hx' : x < ((ts.take j).filter fun t => !p t).length := by rw [Hall.out]; exact hx
          have h1 := Hpre.out x hx'
          have hxi : x < i := by rw [Hi.out]; exact hx'
          have e1 : ((ts.take j).filter fun t => !p t)[x] = (ts.filter fun t => !p t)[x] := by
            congr 1
            rw [Hall.out]
          rw [e1] at h1
          exact ((h1.keep hkeep).congr fun k h2 h3 => hs2 k (by omega)).cut hxi

end Go.Proofs.Ytimlbpjdgnapoaa
