/- Contracts of Put's closures. -/
import Derived.Test.YtidamlkekgnhgaaDoorTyN
namespace Go.Proofs.YtidamlkekgnhgaaDoor
set_option linter.unusedVariables false
set_option linter.unusedSimpArgs false
open Go.RowKit

/-- the type at a variable -/
def putV (types : List TyD) (n : Int) : Option TyD := if n < types.length then types[n.toNat]? else none
/-- the Mu at a multiplicity's variable -/
def putM (mults : List (Int × Int)) (n : Int) : Int × Int := if n < mults.length then mults.getD n.toNat (n, 0) else (n, 0)

set_option maxRecDepth 100000 in
set_option maxHeartbeats 2000000 in
theorem put3_any (p1 : Nat) (A : Option Addr) (m c : Nat) (types : List TyD) (i : Int) (w : World) (hp : w.cell? ⟨p1, 0, none⟩ = some (.slice A m c)) (ht : TysV w w.heap.size A m c types) (hm : ∀ t ∈ types, mayT t = true) (h0 : 0 ≤ i) :
    Calls Tryd.prog 59 (#[.int .i64 i] ++ #[.pointer (some ⟨p1, 0, none⟩)]) w (VPost (putV types) i w) := by
  have hlen := ht.len
  have m63 : m ≤ 9223372036854775807 := Nat.le_trans ht.2.1 ht.2.2.1
  have hbx := below_box (w := w) (Obj.cells #[.int .u8 0, .int .i64 0, .int .i64 0, .int .u8 0, .slice none 0 0] 27)
  have hy := blk_new w #[.int .u8 0, .int .i64 0, .int .i64 0, .int .u8 0, .slice none 0 0] 27
  have hL := (ht.below hbx).more hbx.size
  have hp1 := (hbx.cell (p := ⟨p1, 0, none⟩) (block_lt_of_cell hp)).trans hp
  by_cases hi : i < m
  · have d0 : decide (i < m) = true := by simpa using hi
    have hi' : i.toNat < types.length := by omega
    have hv : putV types i = some types[i.toNat] := by unfold putV; rw [if_pos (by omega), List.getElem?_eq_getElem hi']
    obtain ⟨b, off, rfl, hb, hc⟩ := hL.at_ (by omega)
    obtain ⟨e0, e1, e2, e3, A2, n2, c2, e4, hx⟩ := tyAt_iff.1 (hc i.toNat hi')
    have hmx := hm types[i.toNat] (List.getElem_mem hi')
    obtain ⟨x, hxk⟩ : ∃ x, types[i.toNat] = x := ⟨_, rfl⟩
    rw [hxk] at e0 e1 e2 e3 hx hmx hv
    have hq := fresh_go (nodes x) x (Nat.le_refl _) hmx A2 n2 c2 _ hx
    have Hq := Lib.hid hq
    have Hy := Lib.hid hy
    have Hbx := Lib.hid hbx
    have Hv := Lib.hid hv
    clear ht hm hbx hy hL hp hc hx hmx hxk hq hv
    go_enter Tryd.func59, Tryd.ntmps59
    go_wp2_with fail
    refine Hq.out.mono ?_; rintro e w3 ⟨A3, n3, c3, rfl, hx3, hb3⟩
    have hy4 := Hy.out.below hb3 Hy.out.lt
    have hb4 := Hbx.out.trans (hb3.mono Hbx.out.size)
    have hg2w : w.heap.size ≤ w.heap.size := Nat.le_refl _
    have hT4 : TysS w3 (fun q => w.heap.size ≤ q ∧ q < w3.heap.size ∧ q ≠ w.heap.size) A3 n3 c3 x.l := hx3.keep (fun q hq => by have := hq.1; rw [World.size_alloc] at this; exact ⟨by omega, hq.2, by omega⟩) fun _ _ => rfl
    have s0 := hy4.frozen 0
    have s1 := hy4.frozen 1
    have s2 := hy4.frozen 2
    have s3 := hy4.frozen 3
    have s4 := hy4.frozen 4
    have r0 := hy4.cell 0
    have r1 := hy4.cell 1
    have r2 := hy4.cell 2
    have r3 := hy4.cell 3
    have r4 := hy4.cell 4
    have Hy4 := Lib.hid hy4
    have Hb4 := Lib.hid hb4
    have HT4 := Lib.hid hT4
    clear hy4 hb4 hT4 hx3 hb3 e0 e1 e2 e3 e4 hp1 Hq Hy Hbx
    go_wp2_with fail
    have hs : Blk (((((w3.setCell ⟨w.heap.size, 0, none⟩ (.int .u8 x.k)).setCell ⟨w.heap.size, 1, none⟩ (.int .i64 x.n)).setCell ⟨w.heap.size, 2, none⟩ (.int .i64 x.v)).setCell ⟨w.heap.size, 3, none⟩ (.int .u8 x.c)).setCell ⟨w.heap.size, 4, none⟩ (.slice A3 n3 c3)) w.heap.size 27 #[.int .u8 x.k, .int .i64 x.n, .int .i64 x.v, .int .u8 x.c, .slice A3 n3 c3] :=
      ((((Hy4.out.set_ 0 (.int .u8 x.k)).set_ 1 (.int .i64 x.n)).set_ 2 (.int .i64 x.v)).set_ 3 (.int .u8 x.c)).set_ 4 (.slice A3 n3 c3)
    have hb9 := ((((Hb4.out.setCell (p := ⟨w.heap.size, 0, none⟩) hg2w (.int .u8 x.k)).setCell (p := ⟨w.heap.size, 1, none⟩) hg2w (.int .i64 x.n)).setCell (p := ⟨w.heap.size, 2, none⟩) hg2w (.int .i64 x.v)).setCell (p := ⟨w.heap.size, 3, none⟩) hg2w (.int .u8 x.c)).setCell (p := ⟨w.heap.size, 4, none⟩) hg2w (.slice A3 n3 c3)
    have hr9 : TysS (((((w3.setCell ⟨w.heap.size, 0, none⟩ (.int .u8 x.k)).setCell ⟨w.heap.size, 1, none⟩ (.int .i64 x.n)).setCell ⟨w.heap.size, 2, none⟩ (.int .i64 x.v)).setCell ⟨w.heap.size, 3, none⟩ (.int .u8 x.c)).setCell ⟨w.heap.size, 4, none⟩ (.slice A3 n3 c3)) (fun b => w.heap.size ≤ b ∧ b < (((((w3.setCell ⟨w.heap.size, 0, none⟩ (.int .u8 x.k)).setCell ⟨w.heap.size, 1, none⟩ (.int .i64 x.n)).setCell ⟨w.heap.size, 2, none⟩ (.int .i64 x.v)).setCell ⟨w.heap.size, 3, none⟩ (.int .u8 x.c)).setCell ⟨w.heap.size, 4, none⟩ (.slice A3 n3 c3)).heap.size) A3 n3 c3 x.l := by
      refine HT4.out.keep (fun b hb => ⟨hb.1, by simpa using hb.2.1⟩) fun p hp => ?_
      have c1 : ∀ (W' : World) (o : Nat) (u : Value), (W'.setCell ⟨w.heap.size, o, none⟩ u).cell? p = W'.cell? p := fun W' o u => World.cell?_setCell_other _ _ _ _ (fun e => hp.2.2 (by rw [← e]))
      rw [c1, c1, c1, c1, c1]
    generalize (((((w3.setCell ⟨w.heap.size, 0, none⟩ (.int .u8 x.k)).setCell ⟨w.heap.size, 1, none⟩ (.int .i64 x.n)).setCell ⟨w.heap.size, 2, none⟩ (.int .i64 x.v)).setCell ⟨w.heap.size, 3, none⟩ (.int .u8 x.c)).setCell ⟨w.heap.size, 4, none⟩ (.slice A3 n3 c3)) = W6 at hs hb9 hr9 ⊢
    have d0' : W6.cell? ⟨w.heap.size, 0, none⟩ = some (.int .u8 x.k) := hs.cell 0
    have d1' : W6.cell? ⟨w.heap.size, 1, none⟩ = some (.int .i64 x.n) := hs.cell 1
    have d2' : W6.cell? ⟨w.heap.size, 2, none⟩ = some (.int .i64 x.v) := hs.cell 2
    have d3' : W6.cell? ⟨w.heap.size, 3, none⟩ = some (.int .u8 x.c) := hs.cell 3
    have d4' : W6.cell? ⟨w.heap.size, 4, none⟩ = some (.slice A3 n3 c3) := hs.cell 4
    exact bodyPost_ret (v := .tuple #[.agg #[.int .u8 x.k, .int .i64 x.n, .int .i64 x.v, .int .u8 x.c, .slice A3 n3 c3], .bool true]) (by simp [results, Tryd.results59, go_sem, d0', d1', d2', d3', d4']) rfl ⟨x, A3, n3, c3, true, rfl, hr9, by rw [Hv.out]; rfl, hb9⟩
  · have d0 : decide (i < m) = false := by simpa using hi
    have hv : putV types i = none := by unfold putV; rw [if_neg (by omega)]
    have s0 := hy.frozen 0
    have s1 := hy.frozen 1
    have s2 := hy.frozen 2
    have s3 := hy.frozen 3
    have s4 := hy.frozen 4
    have r0 := hy.cell 0
    have r1 := hy.cell 1
    have r2 := hy.cell 2
    have r3 := hy.cell 3
    have r4 := hy.cell 4
    have Hbx := Lib.hid hbx
    have Hv := Lib.hid hv
    clear ht hm hbx hL hp hv hi
    go_enter Tryd.func59, Tryd.ntmps59
    go_wp2_with fail
    exact bodyPost_ret (v := .tuple #[.agg #[.int .u8 0, .int .i64 0, .int .i64 0, .int .u8 0, .slice none 0 0], .bool false]) (by simp [results, Tryd.results59, go_sem, r0, r1, r2, r3, r4]) rfl ⟨.mk 0 0 0 0 [], none, 0, 0, false, rfl, TysS.nil, by rw [Hv.out]; rfl, Hbx.out⟩

end Go.Proofs.YtidamlkekgnhgaaDoor
