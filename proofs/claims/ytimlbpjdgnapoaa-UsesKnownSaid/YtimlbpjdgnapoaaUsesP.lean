/- usufructref17: Join, Sum, Scale, Times, of uses that may be. -/
import Derived.Test.YtimlbpjdgnapoaaUsesO
import Derived.Deep.RegionHeld3
namespace Go.Proofs.Ytimlbpjdgnapoaa
set_option linter.unusedVariables false
set_option linter.unusedSimpArgs false
open Go.RowKit

theorem pair_some {F : List TermD → TermD} (hF : EachF F) {a b : List UseD} (ha : Good a) (hb : Good b) {v : Int} (hv : v ∈ varsOf [a, b]) : (F [ofU a v, ofU b v]).never = false := by
  obtain ⟨l, hl, hn⟩ := (mem_varsOf_of (ls := [a, b]) (by simp [ha, hb]) v).1 hv
  refine hF.some _ (ofU l v) ?_ hn
  simp only [List.mem_cons, List.not_mem_nil, or_false] at hl ⊢
  rcases hl with rfl | rfl
  · exact .inl rfl
  · exact .inr rfl

set_option maxRecDepth 100000 in
set_option maxHeartbeats 4000000 in
theorem refJoinU_any (A : Option Addr) (n c : Nat) (a : List UseD) (A' : Option Addr) (n' c' : Nat) (b : List UseD) (w : World) (hx : UsesV w w.heap.size A n c a) (hy : UsesV w w.heap.size A' n' c' b) (ha : Good a) (hb : Good b) :
    Calls Try.prog 13 #[.slice A n c, .slice A' n' c'] w (RetU (eachU joinT [a, b]) w) := by
  have hq := bothU_any A n c a A' n' c' b w hx hy ha hb
  have hE : eachU joinT [a, b] = (sset (varsOf [a, b])).map fun v => ⟨v, joinT [ofU a v, ofU b v]⟩ := rfl
  have hpos : ∀ v ∈ sset (varsOf [a, b]), (joinT [ofU a v, ofU b v]).never = false := fun v hv => pair_some eachJoin ha hb (((sset_rises _).2 v).1 hv)
  have hrr : ∀ v, rJoin (ofU a v) (ofU b v) = joinT [ofU a v, ofU b v] := fun v => rJoin_two (mayU_ofU ha.mayU v) (mayU_ofU hb.mayU v)
  have hbig : ∀ v, (ofU a v).vars.length + (ofU b v).vars.length ≤ 1099511627776 := fun v => by
    have h1 := may_vars_len (mayU_ofU ha.mayU v)
    have h2 := may_vars_len (mayU_ofU hb.mayU v)
    omega
  have hlen : (sset (varsOf [a, b])).length ≤ 1048576 := by
    refine rises_len (sset_rises _).1 fun v hv => ?_
    obtain ⟨l, hl, x, hxl, rfl⟩ := varsOf_mem.1 (((sset_rises _).2 v).1 hv)
    simp only [List.mem_cons, List.not_mem_nil, or_false] at hl
    rcases hl with rfl | rfl
    · exact ha.rng x hxl
    · exact hb.rng x hxl
  rw [hE]
  obtain ⟨V, hV⟩ : ∃ V, sset (varsOf [a, b]) = V := ⟨_, rfl⟩
  rw [hV] at hq hpos hlen ⊢
  have Hq := Lib.hid hq
  have Hpos := Lib.hid hpos
  have Hrr := Lib.hid hrr
  have Hbig := Lib.hid hbig
  have Hlen := Lib.hid hlen
  have Hx := Lib.hid hx
  have Hy := Lib.hid hy
  clear hx hy ha hb hq hE hpos hrr hbig hV
  go_enter Try.func13, Try.ntmps13
  go_wp2_with fail
  refine Hq.out.mono ?_; rintro e w1 ⟨A1, m, c1, rfl, hr1, hb1⟩
  have hm := hr1.len
  have m63 : m ≤ 9223372036854775807 := by omega
  have Hr1 := Lib.hid hr1
  have Hb1 := Lib.hid hb1
  clear hr1 hb1 Hq
  go_wp2_with fail
  go_loopg [5, 7] m (fun gh o i wr => ∃ k : Nat, k ≤ m ∧ gh = m - k ∧ i = .int .i64 k ∧ OwnU wr w1.heap.size o k ((V.take k).map fun v => ⟨v, joinT [ofU a v, ofU b v]⟩) ∧ Below w1.heap.size w1 wr)
  case atStart => exact ⟨0, Nat.zero_le _, rfl, rfl, OwnU.nil _ _, Below.refl _ _⟩
  case round =>
    obtain ⟨k, hk, rfl, rfl, ho, hbel⟩ := hrel
    obtain ⟨A2, c2, rfl⟩ := ho.form
    by_cases hkm : k < m
    · have d0 : decide (k < m) = true := by simpa using hkm
      have hk' : k < V.length := by omega
      obtain ⟨bl, ol, q, hbl, hc⟩ := (Hr1.out.below hbel).at_ (by omega)
      subst q
      have v0 := hc k hk'
      have hstep : (V.take (k + 1)).map (fun v => (⟨v, joinT [ofU a v, ofU b v]⟩ : UseD)) = (V.take k).map (fun v => ⟨v, joinT [ofU a v, ofU b v]⟩) ++ [⟨V[k], joinT [ofU a V[k], ofU b V[k]]⟩] := by rw [List.take_succ_eq_append_getElem hk', List.map_append]; rfl
      have hnv := Hpos.out V[k] (List.getElem_mem hk')
      obtain ⟨v, hv⟩ : ∃ v, V[k] = v := ⟨_, rfl⟩
      rw [hv] at v0 hstep hnv
      obtain ⟨wa, hwa⟩ : ∃ wa, wa = wr.drew := ⟨_, rfl⟩
      have hbelA : Below w1.heap.size w1 wa := by rw [hwa]; exact hbel.drew
      have hoA : OwnU wa w1.heap.size (.slice A2 k c2) k ((V.take k).map fun v => ⟨v, joinT [ofU a v, ofU b v]⟩) := by rw [hwa]; exact ho.beyond ((Below.refl _ _).drew)
      have hx1 := Hx.out.below (Hb1.out.trans (hbelA.mono Hb1.out.size))
      have hy1 := Hy.out.below (Hb1.out.trans (hbelA.mono Hb1.out.size))
      have hB1 : w.heap.size ≤ wa.heap.size := Nat.le_trans Hb1.out.size hbelA.size
      have hq1 := refOf_any w.heap.size v A n c a wa hx1 hB1
      rw [hwa] at hq1
      have Hq1 := Lib.hid hq1
      have Hy1 := Lib.hid hy1
      have Hst := Lib.hid hstep
      have Hnv := Lib.hid hnv
      have HbelA := Lib.hid hbelA
      have HoA := Lib.hid hoA
      have HB1 := Lib.hid hB1
      have hbl2 : bl < wa.heap.size := Nat.lt_of_lt_of_le hbl hbelA.size
      have va : wa.cell? ⟨bl, ol + k, none⟩ = some (.int .i64 v) := by rw [hwa]; exact v0
      have Hwa := Lib.hid hwa
      have k1 : (0 : Int) ≤ (k : Int) := by omega
      have k2 : (k : Int) < m := by omega
      have hsz : wr.heap.size = wa.heap.size := by rw [hwa]; rfl
      clear hc hstep hnv hv hq1 hbelA hoA hx1 hy1 hB1 ho hbel hwa
      go_wp2_with fail
      go_region_held3 (fun w' => w'.cell? ⟨bl, ol + k, none⟩ = some (.int .i64 v))
        (first | go_keep | exact va | exact vb2 | exact vc2 | exact vd2 | exact ve2)
        ((first | (go_at_call_of 26 (Value.slice A n c); refine Hq1.out.mono ?_; rintro e wb ⟨Ab, nb, cb, rfl, hrb, hbb⟩; rw [← Hwa.out] at hbb; have vb2 := (hbb.cell (p := ⟨bl, ol + k, none⟩) hbl2).trans va; have Hrb := Lib.hid hrb; have Hbb := Lib.hid hbb; clear hrb hbb) | (go_at_call 26; have hbl3 := Nat.lt_of_lt_of_le hbl2 Hbb.out.size; have hb0 := Hbb.out; refine (refOf_any w.heap.size v A' n' c' b wb (Hy1.out.below (hb0.mono HB1.out)) (Nat.le_trans HB1.out hb0.size)).mono ?_; rintro e wc ⟨Ac, nc, cc, rfl, hrc, hbc⟩; have vc2 := (hbc.cell (p := ⟨bl, ol + k, none⟩) hbl3).trans vb2; have Hrc := Lib.hid hrc; have Hbc := Lib.hid hbc; clear hrc hbc hb0) | (go_at_call 48; have hbl4 := Nat.lt_of_lt_of_le hbl3 Hbc.out.size; have hb0 := Hbb.out; have hc0 := Hbc.out; have hj := refJoin_g (.agg #[.bool (ofU a v).never, .int .u8 (ofU a v).c, .slice Ab nb cb]) (.agg #[.bool (ofU b v).never, .int .u8 (ofU b v).c, .slice Ac nc cc]) (ofU a v) (ofU b v) wc w.heap.size ⟨Ab, nb, cb, rfl, Hrb.out.below (hc0.mono (Nat.le_trans HB1.out hb0.size))⟩ ⟨Ac, nc, cc, rfl, Hrc.out⟩ (Nat.le_trans HB1.out (Nat.le_trans hb0.size hc0.size)) (Hbig.out v); rw [Hrr.out v] at hj; refine hj.mono ?_; clear hj; rintro e wd ⟨Ad, nd, cd, rfl, hrd, hbd, hfd⟩; have vd2 := (hbd.cell (p := ⟨bl, ol + k, none⟩) hbl4).trans vc2; have Hrd := Lib.hid hrd; have Hbd := Lib.hid hbd; have Hfd := Lib.hid hfd; clear hrd hbd hb0 hc0 hfd) | (go_at_call 47; have hacd : Below wa.heap.size wa wd := (Hbb.out.trans (Hbc.out.mono Hbb.out.size)).trans (Hbd.out.mono (Nat.le_trans Hbb.out.size Hbc.out.size)); have hac : wa.heap.size ≤ wc.heap.size := Nat.le_trans Hbb.out.size Hbc.out.size; have hlt := HoA.out.lt; have h1a : w1.heap.size ≤ wa.heap.size := HbelA.out.size; have h01 : w.heap.size ≤ w1.heap.size := Hb1.out.size; refine (put_any w1.heap.size k (.slice A2 k c2) _ v (joinT [ofU a v, ofU b v]) Ad nd cd w1 wd (HoA.out.beyond hacd) (by omega) Hnv.out Hrd.out (fun h => (by obtain ⟨p, e, hp⟩ := Hfd.out h; refine ⟨p, e, fun e' => ?_⟩; have := hlt _ e'.symm; omega)) (HbelA.out.trans (hacd.mono HbelA.out.size)) (Nat.le_trans h1a hacd.size)).mono ?_; rintro e we ⟨A5, c5, rfl, ho5, hb5, -⟩; have ve2 := (hb5.cell (p := ⟨bl, ol + k, none⟩) hbl).trans ((HbelA.out.cell (p := ⟨bl, ol + k, none⟩) hbl).symm.trans va); have Ho5 := Lib.hid ho5; have Hb5 := Lib.hid hb5; clear ho5 hb5 hacd hac hlt h1a h01)))
      clear va vb2 vc2 vd2 ve2 hbl2 hbl3 hbl4
      go_wp2_with fail
      go_roundg (m - (k + 1))
      case measure => omega
      case rel => exact ⟨k + 1, by omega, rfl, by go_num, by rw [Hst.out]; exact Ho5.out, Hb5.out⟩
    · have d0 : decide (k < m) = false := by simpa using hkm
      rw [List.take_of_length_le (by omega)] at ho
      have hkm' : k = V.length := by omega
      have HU := Lib.hid ho.uses.2
      have Hbel := Lib.hid (Hb1.out.trans (hbel.mono Hb1.out.size))
      clear ho hbel
      go_wp2_with fail
      go_ret
      exact ⟨A2, k, c2, rfl, HU.out, Hbel.out⟩
set_option maxRecDepth 100000 in
set_option maxHeartbeats 4000000 in
theorem refSumU_any (A : Option Addr) (n c : Nat) (a : List UseD) (A' : Option Addr) (n' c' : Nat) (b : List UseD) (w : World) (hx : UsesV w w.heap.size A n c a) (hy : UsesV w w.heap.size A' n' c' b) (ha : Good a) (hb : Good b) :
    Calls Try.prog 14 #[.slice A n c, .slice A' n' c'] w (RetU (eachU sumT [a, b]) w) := by
  have hq := bothU_any A n c a A' n' c' b w hx hy ha hb
  have hE : eachU sumT [a, b] = (sset (varsOf [a, b])).map fun v => ⟨v, sumT [ofU a v, ofU b v]⟩ := rfl
  have hpos : ∀ v ∈ sset (varsOf [a, b]), (sumT [ofU a v, ofU b v]).never = false := fun v hv => pair_some eachSum ha hb (((sset_rises _).2 v).1 hv)
  have hrr : ∀ v, rSum (ofU a v) (ofU b v) = sumT [ofU a v, ofU b v] := fun v => rSum_two (mayU_ofU ha.mayU v) (mayU_ofU hb.mayU v)
  have hbig : ∀ v, (ofU a v).vars.length + (ofU b v).vars.length ≤ 1099511627776 := fun v => by
    have h1 := may_vars_len (mayU_ofU ha.mayU v)
    have h2 := may_vars_len (mayU_ofU hb.mayU v)
    omega
  have hlen : (sset (varsOf [a, b])).length ≤ 1048576 := by
    refine rises_len (sset_rises _).1 fun v hv => ?_
    obtain ⟨l, hl, x, hxl, rfl⟩ := varsOf_mem.1 (((sset_rises _).2 v).1 hv)
    simp only [List.mem_cons, List.not_mem_nil, or_false] at hl
    rcases hl with rfl | rfl
    · exact ha.rng x hxl
    · exact hb.rng x hxl
  rw [hE]
  obtain ⟨V, hV⟩ : ∃ V, sset (varsOf [a, b]) = V := ⟨_, rfl⟩
  rw [hV] at hq hpos hlen ⊢
  have Hq := Lib.hid hq
  have Hpos := Lib.hid hpos
  have Hrr := Lib.hid hrr
  have Hbig := Lib.hid hbig
  have Hlen := Lib.hid hlen
  have Hx := Lib.hid hx
  have Hy := Lib.hid hy
  clear hx hy ha hb hq hE hpos hrr hbig hV
  go_enter Try.func14, Try.ntmps14
  go_wp2_with fail
  refine Hq.out.mono ?_; rintro e w1 ⟨A1, m, c1, rfl, hr1, hb1⟩
  have hm := hr1.len
  have m63 : m ≤ 9223372036854775807 := by omega
  have Hr1 := Lib.hid hr1
  have Hb1 := Lib.hid hb1
  clear hr1 hb1 Hq
  go_wp2_with fail
  go_loopg [5, 7] m (fun gh o i wr => ∃ k : Nat, k ≤ m ∧ gh = m - k ∧ i = .int .i64 k ∧ OwnU wr w1.heap.size o k ((V.take k).map fun v => ⟨v, sumT [ofU a v, ofU b v]⟩) ∧ Below w1.heap.size w1 wr)
  case atStart => exact ⟨0, Nat.zero_le _, rfl, rfl, OwnU.nil _ _, Below.refl _ _⟩
  case round =>
    obtain ⟨k, hk, rfl, rfl, ho, hbel⟩ := hrel
    obtain ⟨A2, c2, rfl⟩ := ho.form
    by_cases hkm : k < m
    · have d0 : decide (k < m) = true := by simpa using hkm
      have hk' : k < V.length := by omega
      obtain ⟨bl, ol, q, hbl, hc⟩ := (Hr1.out.below hbel).at_ (by omega)
      subst q
      have v0 := hc k hk'
      have hstep : (V.take (k + 1)).map (fun v => (⟨v, sumT [ofU a v, ofU b v]⟩ : UseD)) = (V.take k).map (fun v => ⟨v, sumT [ofU a v, ofU b v]⟩) ++ [⟨V[k], sumT [ofU a V[k], ofU b V[k]]⟩] := by rw [List.take_succ_eq_append_getElem hk', List.map_append]; rfl
      have hnv := Hpos.out V[k] (List.getElem_mem hk')
      obtain ⟨v, hv⟩ : ∃ v, V[k] = v := ⟨_, rfl⟩
      rw [hv] at v0 hstep hnv
      obtain ⟨wa, hwa⟩ : ∃ wa, wa = wr.drew := ⟨_, rfl⟩
      have hbelA : Below w1.heap.size w1 wa := by rw [hwa]; exact hbel.drew
      have hoA : OwnU wa w1.heap.size (.slice A2 k c2) k ((V.take k).map fun v => ⟨v, sumT [ofU a v, ofU b v]⟩) := by rw [hwa]; exact ho.beyond ((Below.refl _ _).drew)
      have hx1 := Hx.out.below (Hb1.out.trans (hbelA.mono Hb1.out.size))
      have hy1 := Hy.out.below (Hb1.out.trans (hbelA.mono Hb1.out.size))
      have hB1 : w.heap.size ≤ wa.heap.size := Nat.le_trans Hb1.out.size hbelA.size
      have hq1 := refOf_any w.heap.size v A n c a wa hx1 hB1
      rw [hwa] at hq1
      have Hq1 := Lib.hid hq1
      have Hy1 := Lib.hid hy1
      have Hst := Lib.hid hstep
      have Hnv := Lib.hid hnv
      have HbelA := Lib.hid hbelA
      have HoA := Lib.hid hoA
      have HB1 := Lib.hid hB1
      have hbl2 : bl < wa.heap.size := Nat.lt_of_lt_of_le hbl hbelA.size
      have va : wa.cell? ⟨bl, ol + k, none⟩ = some (.int .i64 v) := by rw [hwa]; exact v0
      have Hwa := Lib.hid hwa
      have k1 : (0 : Int) ≤ (k : Int) := by omega
      have k2 : (k : Int) < m := by omega
      have hsz : wr.heap.size = wa.heap.size := by rw [hwa]; rfl
      clear hc hstep hnv hv hq1 hbelA hoA hx1 hy1 hB1 ho hbel hwa
      go_wp2_with fail
      go_region_held3 (fun w' => w'.cell? ⟨bl, ol + k, none⟩ = some (.int .i64 v))
        (first | go_keep | exact va | exact vb2 | exact vc2 | exact vd2 | exact ve2)
        ((first | (go_at_call_of 26 (Value.slice A n c); refine Hq1.out.mono ?_; rintro e wb ⟨Ab, nb, cb, rfl, hrb, hbb⟩; rw [← Hwa.out] at hbb; have vb2 := (hbb.cell (p := ⟨bl, ol + k, none⟩) hbl2).trans va; have Hrb := Lib.hid hrb; have Hbb := Lib.hid hbb; clear hrb hbb) | (go_at_call 26; have hbl3 := Nat.lt_of_lt_of_le hbl2 Hbb.out.size; have hb0 := Hbb.out; refine (refOf_any w.heap.size v A' n' c' b wb (Hy1.out.below (hb0.mono HB1.out)) (Nat.le_trans HB1.out hb0.size)).mono ?_; rintro e wc ⟨Ac, nc, cc, rfl, hrc, hbc⟩; have vc2 := (hbc.cell (p := ⟨bl, ol + k, none⟩) hbl3).trans vb2; have Hrc := Lib.hid hrc; have Hbc := Lib.hid hbc; clear hrc hbc hb0) | (go_at_call 49; have hbl4 := Nat.lt_of_lt_of_le hbl3 Hbc.out.size; have hb0 := Hbb.out; have hc0 := Hbc.out; have hj := refSum_g (.agg #[.bool (ofU a v).never, .int .u8 (ofU a v).c, .slice Ab nb cb]) (.agg #[.bool (ofU b v).never, .int .u8 (ofU b v).c, .slice Ac nc cc]) (ofU a v) (ofU b v) wc w.heap.size ⟨Ab, nb, cb, rfl, Hrb.out.below (hc0.mono (Nat.le_trans HB1.out hb0.size))⟩ ⟨Ac, nc, cc, rfl, Hrc.out⟩ (Nat.le_trans HB1.out (Nat.le_trans hb0.size hc0.size)) ; rw [Hrr.out v] at hj; refine hj.mono ?_; clear hj; rintro e wd ⟨Ad, nd, cd, rfl, hrd, hbd, hfd⟩; have vd2 := (hbd.cell (p := ⟨bl, ol + k, none⟩) hbl4).trans vc2; have Hrd := Lib.hid hrd; have Hbd := Lib.hid hbd; have Hfd := Lib.hid hfd; clear hrd hbd hb0 hc0 hfd) | (go_at_call 47; have hacd : Below wa.heap.size wa wd := (Hbb.out.trans (Hbc.out.mono Hbb.out.size)).trans (Hbd.out.mono (Nat.le_trans Hbb.out.size Hbc.out.size)); have hac : wa.heap.size ≤ wc.heap.size := Nat.le_trans Hbb.out.size Hbc.out.size; have hlt := HoA.out.lt; have h1a : w1.heap.size ≤ wa.heap.size := HbelA.out.size; have h01 : w.heap.size ≤ w1.heap.size := Hb1.out.size; refine (put_any w1.heap.size k (.slice A2 k c2) _ v (sumT [ofU a v, ofU b v]) Ad nd cd w1 wd (HoA.out.beyond hacd) (by omega) Hnv.out Hrd.out (fun h => (by obtain ⟨p, e, hp⟩ := Hfd.out h; refine ⟨p, e, fun e' => ?_⟩; have := hlt _ e'.symm; omega)) (HbelA.out.trans (hacd.mono HbelA.out.size)) (Nat.le_trans h1a hacd.size)).mono ?_; rintro e we ⟨A5, c5, rfl, ho5, hb5, -⟩; have ve2 := (hb5.cell (p := ⟨bl, ol + k, none⟩) hbl).trans ((HbelA.out.cell (p := ⟨bl, ol + k, none⟩) hbl).symm.trans va); have Ho5 := Lib.hid ho5; have Hb5 := Lib.hid hb5; clear ho5 hb5 hacd hac hlt h1a h01)))
      clear va vb2 vc2 vd2 ve2 hbl2 hbl3 hbl4
      go_wp2_with fail
      go_roundg (m - (k + 1))
      case measure => omega
      case rel => exact ⟨k + 1, by omega, rfl, by go_num, by rw [Hst.out]; exact Ho5.out, Hb5.out⟩
    · have d0 : decide (k < m) = false := by simpa using hkm
      rw [List.take_of_length_le (by omega)] at ho
      have hkm' : k = V.length := by omega
      have HU := Lib.hid ho.uses.2
      have Hbel := Lib.hid (Hb1.out.trans (hbel.mono Hb1.out.size))
      clear ho hbel
      go_wp2_with fail
      go_ret
      exact ⟨A2, k, c2, rfl, HU.out, Hbel.out⟩

set_option maxRecDepth 100000 in
set_option maxHeartbeats 4000000 in
theorem refScaleU_any (c v : Int) (A : Option Addr) (n cp : Nat) (l : List UseD) (w : World) (hx : UsesV w w.heap.size A n cp l) (hl : Good l) (hi : isB c v = true) :
    Calls Try.prog 30 #[.agg #[.int .i64 v, .int .u8 c], .slice A n cp] w (RetU (scaleU c v l) w) := by
  have hxl := hx.len
  have hn : n ≤ 1048576 := by rw [← hxl]; exact (mayU_rises hl.mayU).2
  have hmay := hl.may
  have hpos : ∀ x ∈ l, (scaleT c v x.t).never = false := fun x hx => by rw [scaleT_never]; exact (hmay x hx).1
  have hrr : ∀ x ∈ l, rScale c v x.t = scaleT c v x.t := fun x hx => rScale_eq hi (hmay x hx).2
  have hbig : ∀ x ∈ l, x.t.vars.length ≤ 1048576 := fun x hx => may_vars_len (hmay x hx).2
  rw [scaleU_eq hl]
  have hbx := below_box (w := w) (Obj.cells #[.int .i64 v, .int .u8 c] 46)
  have hz := blk_new w #[.int .i64 v, .int .u8 c] 46
  have hx0 := hx.below hbx
  have Hpos := Lib.hid hpos
  have Hrr := Lib.hid hrr
  have Hbig := Lib.hid hbig
  have Hx := Lib.hid hx0
  have Hz := Lib.hid hz
  have Hbx := Lib.hid hbx
  clear hx hl hi hmay hpos hrr hbig hbx hz hx0
  go_enter Try.func30, Try.ntmps30
  go_wp2_with fail
  obtain ⟨w1, hw1⟩ : ∃ w1, w.alloc (Obj.cells #[.int .i64 v, .int .u8 c] 46) = w1 := ⟨_, rfl⟩
  rw [hw1] at Hx Hz Hbx ⊢
  clear hw1
  go_loopg [5, 6] n (fun gh o i wr => ∃ k : Nat, k ≤ n ∧ gh = n - k ∧ i = .int .i64 k ∧ OwnU wr w1.heap.size o k ((l.take k).map fun x => ⟨x.v, scaleT c v x.t⟩) ∧ Below w1.heap.size w1 wr)
  case atStart => exact ⟨0, Nat.zero_le _, rfl, rfl, OwnU.nil _ _, Below.refl _ _⟩
  case round =>
    obtain ⟨k, hk, rfl, rfl, ho, hbel⟩ := hrel
    obtain ⟨A2, c2, rfl⟩ := ho.form
    by_cases hkm : k < n
    · have d0 : decide (k < n) = true := by simpa using hkm
      have hk' : k < l.length := by omega
      obtain ⟨bl, ol, q, hbl, hc⟩ := Hx.out.at_ (by omega)
      subst q
      obtain ⟨e0, Ax, nx, cx, e1, e2, e3, hrx⟩ := hc k hk'
      have hstep : (l.take (k + 1)).map (fun x => (⟨x.v, scaleT c v x.t⟩ : UseD)) = (l.take k).map (fun x => ⟨x.v, scaleT c v x.t⟩) ++ [⟨l[k].v, scaleT c v l[k].t⟩] := by rw [List.take_succ_eq_append_getElem hk', List.map_append]; rfl
      have hnv := Hpos.out l[k] (List.getElem_mem hk')
      have hrr := Hrr.out l[k] (List.getElem_mem hk')
      have hbig := Hbig.out l[k] (List.getElem_mem hk')
      obtain ⟨x, hxk⟩ : ∃ x, l[k] = x := ⟨_, rfl⟩
      rw [hxk] at e0 e1 e2 hrx hstep hnv hrr hbig
      replace e2 : w1.cell? ⟨bl, ol + k * 4 + 2, none⟩ = some (.int .u8 x.t.c) := e2
      replace e3 : w1.cell? ⟨bl, ol + k * 4 + 3, none⟩ = some (.slice Ax nx cx) := e3
      have q0 : w1.cell? ⟨w.heap.size, 0, none⟩ = some (.int .i64 v) := Hz.out.cell 0
      have q1 : w1.cell? ⟨w.heap.size, 1, none⟩ = some (.int .u8 c) := Hz.out.cell 1
      have hbl1 : bl < w1.heap.size := Nat.lt_of_lt_of_le hbl Hbx.out.size
      have hg1 : w.heap.size < w1.heap.size := Hz.out.lt
      obtain ⟨wa, hwa⟩ : ∃ wa, wa = wr.drew := ⟨_, rfl⟩
      have hbelA : Below w1.heap.size w1 wa := by rw [hwa]; exact hbel.drew
      have hoA : OwnU wa w1.heap.size (.slice A2 k c2) k ((l.take k).map fun x => ⟨x.v, scaleT c v x.t⟩) := by rw [hwa]; exact ho.beyond ((Below.refl _ _).drew)
      have a0 := (hbelA.cell (p := ⟨bl, ol + k * 4, none⟩) hbl1).trans e0
      have a1 := (hbelA.cell (p := ⟨bl, ol + k * 4 + 1, none⟩) hbl1).trans e1
      have a2 := (hbelA.cell (p := ⟨bl, ol + k * 4 + 2, none⟩) hbl1).trans e2
      have a3 := (hbelA.cell (p := ⟨bl, ol + k * 4 + 3, none⟩) hbl1).trans e3
      have a4 := (hbelA.cell (p := ⟨w.heap.size, 0, none⟩) hg1).trans q0
      have a5 := (hbelA.cell (p := ⟨w.heap.size, 1, none⟩) hg1).trans q1
      have hj := refScale_g c v (.agg #[.bool x.t.never, .int .u8 x.t.c, .slice Ax nx cx]) x.t wa w1.heap.size ⟨Ax, nx, cx, rfl, (hrx.more Hbx.out.size).below hbelA⟩ hbelA.size hbig
      rw [hrr, hwa] at hj
      have Hj := Lib.hid hj
      have Hst := Lib.hid hstep
      have Hnv := Lib.hid hnv
      have HbelA := Lib.hid hbelA
      have HoA := Lib.hid hoA
      have Hwa := Lib.hid hwa
      have r0 := (hbel.cell (p := ⟨bl, ol + k * 4, none⟩) hbl1).trans e0
      have r1 := (hbel.cell (p := ⟨bl, ol + k * 4 + 1, none⟩) hbl1).trans e1
      have r2 := (hbel.cell (p := ⟨bl, ol + k * 4 + 2, none⟩) hbl1).trans e2
      have r3 := (hbel.cell (p := ⟨bl, ol + k * 4 + 3, none⟩) hbl1).trans e3
      have r4 := (hbel.cell (p := ⟨w.heap.size, 0, none⟩) hg1).trans q0
      have r5 := (hbel.cell (p := ⟨w.heap.size, 1, none⟩) hg1).trans q1
      have k1 : (0 : Int) ≤ (k : Int) := by omega
      have k2 : (k : Int) < n := by omega
      clear hc hstep hnv hrr hbig hxk hj hbelA hoA ho hbel hwa e0 e1 e2 e3 q0 q1 hrx
      go_wp2_with fail
      go_region_held3 (fun w' => w'.cell? ⟨bl, ol + k * 4, none⟩ = some (.int .i64 x.v) ∧ w'.cell? ⟨bl, ol + k * 4 + 1, none⟩ = some (.bool x.t.never) ∧ w'.cell? ⟨bl, ol + k * 4 + 2, none⟩ = some (.int .u8 x.t.c) ∧ w'.cell? ⟨bl, ol + k * 4 + 3, none⟩ = some (.slice Ax nx cx) ∧ w'.cell? ⟨w.heap.size, 0, none⟩ = some (.int .i64 v) ∧ w'.cell? ⟨w.heap.size, 1, none⟩ = some (.int .u8 c))
        (first | go_keep | exact ⟨(hbdd.cell (p := ⟨bl, ol + k * 4, none⟩) hbl1).trans a0, (hbdd.cell (p := ⟨bl, ol + k * 4 + 1, none⟩) hbl1).trans a1, (hbdd.cell (p := ⟨bl, ol + k * 4 + 2, none⟩) hbl1).trans a2, (hbdd.cell (p := ⟨bl, ol + k * 4 + 3, none⟩) hbl1).trans a3, (hbdd.cell (p := ⟨w.heap.size, 0, none⟩) hg1).trans a4, (hbdd.cell (p := ⟨w.heap.size, 1, none⟩) hg1).trans a5⟩)
        ((first | (go_at_call 61; refine Hj.out.mono ?_; rintro e wd ⟨Ad, nd, cd, rfl, hrd, hbd, hfd⟩; rw [← Hwa.out] at hbd hfd; have hbdd : Below w1.heap.size wa wd := hbd.mono HbelA.out.size; have Hrd := Lib.hid hrd; have Hbd := Lib.hid hbd; have Hfd := Lib.hid hfd; clear hrd hbd hfd) | (go_at_call 47; have hacd : Below wa.heap.size wa wd := Hbd.out; have hlt := HoA.out.lt; have h1a : w1.heap.size ≤ wa.heap.size := HbelA.out.size; refine (put_any w1.heap.size k (.slice A2 k c2) _ x.v (scaleT c v x.t) Ad nd cd w1 wd (HoA.out.beyond hacd) (by omega) Hnv.out Hrd.out (fun h => (by obtain ⟨p, e, hp⟩ := Hfd.out h; refine ⟨p, e, fun e' => ?_⟩; have := hlt _ e'.symm; omega)) (HbelA.out.trans (hacd.mono HbelA.out.size)) (Nat.le_trans h1a hacd.size)).mono ?_; clear hbdd; rintro e we ⟨A5, c5, rfl, ho5, hb5, -⟩; have hbdd : Below w1.heap.size w1 we := hb5; replace a0 := (HbelA.out.cell (p := ⟨bl, ol + k * 4, none⟩) hbl1).symm.trans a0; replace a1 := (HbelA.out.cell (p := ⟨bl, ol + k * 4 + 1, none⟩) hbl1).symm.trans a1; replace a2 := (HbelA.out.cell (p := ⟨bl, ol + k * 4 + 2, none⟩) hbl1).symm.trans a2; replace a3 := (HbelA.out.cell (p := ⟨bl, ol + k * 4 + 3, none⟩) hbl1).symm.trans a3; replace a4 := (HbelA.out.cell (p := ⟨w.heap.size, 0, none⟩) hg1).symm.trans a4; replace a5 := (HbelA.out.cell (p := ⟨w.heap.size, 1, none⟩) hg1).symm.trans a5; have Ho5 := Lib.hid ho5; have Hb5 := Lib.hid hb5; clear ho5 hb5 hacd hlt h1a)))
      clear a0 a1 a2 a3 a4 a5 r0 r1 r2 r3 r4 r5 hbdd
      go_wp2_with fail
      go_roundg (n - (k + 1))
      case measure => omega
      case rel => exact ⟨k + 1, by omega, rfl, by go_num, by rw [Hst.out]; exact Ho5.out, Hb5.out⟩
    · have d0 : decide (k < n) = false := by simpa using hkm
      rw [List.take_of_length_le (by omega)] at ho
      have HU := Lib.hid ho.uses.2
      have Hbel := Lib.hid (Hbx.out.trans (hbel.mono Hbx.out.size))
      clear ho hbel
      have hkm' : k = n := by omega
      go_wp2_with fail
      go_ret
      exact ⟨A2, k, c2, rfl, HU.out, Hbel.out⟩

set_option maxRecDepth 100000 in
set_option maxHeartbeats 4000000 in
theorem refTimesU_any (A0 : Option Addr) (n0 c0 : Nat) (t : TermD) (A : Option Addr) (n cp : Nat) (l : List UseD) (w : World) (ht : RdI .i64 w w.heap.size A0 n0 c0 t.vars) (hx : UsesV w w.heap.size A n cp l) (h1 : mayB t = true) (hl : Good l) :
    Calls Try.prog 31 #[.agg #[.bool t.never, .int .u8 t.c, .slice A0 n0 c0], .slice A n cp] w (RetU (timesU t l) w) := by
  have hbx := below_box (w := w) (Obj.cells #[.bool t.never, .int .u8 t.c, .slice A0 n0 c0] 37)
  have hz := blk_new w #[.bool t.never, .int .u8 t.c, .slice A0 n0 c0] 37
  have ht0 := (ht.below hbx).more hbx.size
  have hx0 := (hx.below hbx).more hbx.size
  have htl := ht.len
  have hn0 : n0 ≤ 1048576 := by rw [← htl]; exact may_vars_len h1
  have hls := least_may h1
  obtain ⟨nv, tc, vs⟩ := t
  dsimp only at ht0 htl
  have Hz := Lib.hid hz
  have Hbx := Lib.hid hbx
  have Ht := Lib.hid ht0
  have Hls := Lib.hid hls
  have Hl := Lib.hid hl
  clear ht hx ht0 hz hbx hls h1
  cases nv with
  | true =>
    have hq := refScaleU_any 2 0 A n cp l _ hx0 hl (by decide)
    have Hq := Lib.hid hq
    have z0 : (w.alloc (Obj.cells #[.bool true, .int .u8 tc, .slice A0 n0 c0] 37)).cell? ⟨w.heap.size, 0, none⟩ = some (.bool true) := Hz.out.cell 0
    clear hq hx0 hl
    go_enter Try.func31, Try.ntmps31
    go_wp2_with fail
    refine Hq.out.mono ?_; rintro e w1 ⟨A1, n1, c1, rfl, hr1, hb1⟩
    have Hr1 := Lib.hid hr1
    have Hb1 := Lib.hid (Hbx.out.trans (hb1.mono Hbx.out.size))
    clear hr1 hb1 z0
    go_wp2_with fail
    go_ret
    exact ⟨A1, n1, c1, rfl, Hr1.out, Hb1.out⟩
  | false =>
    have hq := refScaleU_any tc 0 A n cp l _ hx0 hl (isB_c Hls.out.1.1 Hls.out.1.2)
    have Hq := Lib.hid hq
    have hvr : ∀ v ∈ vs, 0 ≤ v ∧ v < 1048576 := Hls.out.2
    have hg0 : Good (scaleU tc 0 l) := scaleU_good hl (isB_c Hls.out.1.1 Hls.out.1.2)
    have Hvr := Lib.hid hvr
    have Hg0 := Lib.hid hg0
    have z0 : (w.alloc (Obj.cells #[.bool false, .int .u8 tc, .slice A0 n0 c0] 37)).cell? ⟨w.heap.size, 0, none⟩ = some (.bool false) := Hz.out.cell 0
    have z1 : (w.alloc (Obj.cells #[.bool false, .int .u8 tc, .slice A0 n0 c0] 37)).cell? ⟨w.heap.size, 1, none⟩ = some (.int .u8 tc) := Hz.out.cell 1
    have hlt := Hz.out.lt
    clear hq hx0 hl hvr hg0 Hls Hl
    go_enter Try.func31, Try.ntmps31
    go_wp2_with fail
    refine Hq.out.mono ?_; rintro e w1 ⟨A1, n1, c1, rfl, hr1, hb1⟩
    have hz1 := Hz.out.below hb1 hlt
    have ht1 := (Ht.out.below hb1).more hb1.size
    have Hz1 := Lib.hid hz1
    have Ht1 := Lib.hid ht1
    have Hr1 := Lib.hid hr1
    have Hb1 := Lib.hid (Hbx.out.trans (hb1.mono Hbx.out.size))
    have hlt1 := hz1.lt
    clear hr1 hb1 z0 z1 hz1 ht1 Hq hlt
    go_wp2_with fail
    go_loopg [5, 6] n0 (fun gh o i wr => ∃ (k : Nat) (A2 : Option Addr) (n2 c2 : Nat), k ≤ n0 ∧ gh = n0 - k ∧ i = .int .i64 k ∧ o = .slice A2 n2 c2 ∧ UsesV wr wr.heap.size A2 n2 c2 ((vs.take k).foldl (fun o v => scaleU 0 v o) (scaleU tc 0 l)) ∧ Below w1.heap.size w1 wr)
    case atStart => exact ⟨0, A1, n1, c1, Nat.zero_le _, rfl, rfl, rfl, Hr1.out, Below.refl _ _⟩
    case round =>
      obtain ⟨k, A2, n2, c2, hk, rfl, rfl, rfl, hu, hbel⟩ := hrel
      have b2 : wr.cell? ⟨w.heap.size, 2, none⟩ = some (.slice A0 n0 c0) := (Hz1.out.below hbel hlt1).cell 2
      by_cases hkm : k < n0
      · have d0 : decide (k < n0) = true := by simpa using hkm
        have hk' : k < vs.length := by omega
        obtain ⟨bl, ol, q, hbl, hc⟩ := (Ht1.out.below hbel).at_ (by omega)
        subst q
        have v0 := hc k hk'
        have hstep : (vs.take (k + 1)).foldl (fun o v => scaleU 0 v o) (scaleU tc 0 l) = scaleU 0 vs[k] ((vs.take k).foldl (fun o v => scaleU 0 v o) (scaleU tc 0 l)) := by rw [List.take_succ_eq_append_getElem hk']; exact fold_snoc (fun o v => scaleU 0 v o) _ _ _
        have hgo : Good ((vs.take k).foldl (fun o v => scaleU 0 v o) (scaleU tc 0 l)) := fold_good _ _ Hg0.out fun v hv => Hvr.out v (List.mem_of_mem_take hv)
        have hvk := Hvr.out vs[k] (List.getElem_mem hk')
        have hq := refScaleU_any 0 vs[k] A2 n2 c2 _ wr hu hgo (isB_v hvk.1 hvk.2)
        obtain ⟨v, hv⟩ : ∃ v, vs[k] = v := ⟨_, rfl⟩
        rw [hv] at v0 hstep hq
        have Hq := Lib.hid hq
        have Hst := Lib.hid hstep
        have Hbel := Lib.hid hbel
        have k1 : (0 : Int) ≤ (k : Int) := by omega
        have k2 : (k : Int) < n0 := by omega
        clear hc hstep hgo hvk hq hv hu hbel
        go_wp2_with fail
        refine Hq.out.mono ?_; rintro e w3 ⟨A3, n3, c3, rfl, hr3, hb3⟩
        have Hr3 := Lib.hid hr3
        have Hb3 := Lib.hid (Hbel.out.trans (hb3.mono Hbel.out.size))
        clear hr3 hb3 b2 v0
        go_wp2_with fail
        go_roundg (n0 - (k + 1))
        case measure => omega
        case rel => exact ⟨k + 1, A3, n3, c3, by omega, rfl, by go_num, rfl, by rw [Hst.out]; exact Hr3.out, Hb3.out⟩
      · have d0 : decide (k < n0) = false := by simpa using hkm
        rw [List.take_of_length_le (by omega)] at hu
        have HU := Lib.hid hu
        have Hbel := Lib.hid (Hb1.out.trans (hbel.mono Hb1.out.size))
        clear hu hbel
        go_wp2_with fail
        go_ret
        exact ⟨A2, n2, c2, rfl, HU.out, Hbel.out⟩

end Go.Proofs.Ytimlbpjdgnapoaa
