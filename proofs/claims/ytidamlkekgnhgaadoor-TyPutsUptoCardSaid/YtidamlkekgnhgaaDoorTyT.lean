/- The text of a type: what it is, the contracts of strconv.Itoa, of (*writer).in by put's. -/
import Derived.Test.YtidamlkekgnhgaaDoorTyS
import Derived.Test.YtidamlkekgnhgaaDoorShelf
import Derived.Test.YtidamlkekgnhgaaDoorMultT
import Derived.Shelf.Unicode.PredsPay
import Derived.Lib.ItoaLen
import Derived.Lib.ItoaMem
import Derived.Lib.CleanWalkFns
namespace Go.Proofs.YtidamlkekgnhgaaDoor
set_option linter.unusedVariables false
set_option linter.unusedSimpArgs false
open Go.RowKit

/-- the table of powers is laid -/
def Tab (w : World) : Prop := Lib.TabIs Tryd.prog w "internal/strconv.uint64pow10" .u64 Lib.pow10Tab
theorem gTab : ∃ g, Tryd.prog.globalNamed "internal/strconv.uint64pow10" = some g := Option.isSome_iff_exists.1 (by kernel_rfl)
theorem Tab.below {w w' : World} (h : Tab w) (hb : Below w.heap.size w w') : Tab w' := by
  obtain ⟨g, hg⟩ := gTab
  exact TabIs_below hg h hb
def numT (n : Int) : ByteArray := ⟨(Lib.itoa n).toArray⟩
theorem below_grow {w : World} (k : Nat) (os : Array Obj) : Below w.heap.size w (Go.Sort.grow (w.drewN k) os) :=
  ⟨rfl, rfl, rfl, by simp [Go.Sort.grow, World.drewN], fun j hj => by simp [Go.Sort.grow, World.drewN, Array.getElem?_append, hj]⟩
theorem itoa_any (n : Int) (h0 : -9223372036854775808 ≤ n) (h1 : n ≤ 9223372036854775807) (w : World) (ht : Tab w) :
    Calls Tryd.prog 73 #[.int .i64 n] w fun e w' => e = .returned (.string (numT n)) ∧ Below w.heap.size w w' :=
  (Tryd.strconv_Itoa n h0 h1 w ht).mono fun e w' ⟨he, k, os, hw⟩ => ⟨he, by rw [hw]; exact below_grow k os⟩
theorem numT_size (v : Int) (h0 : -9223372036854775808 ≤ v) (h1 : v ≤ 9223372036854775807) : (numT v).size ≤ 21 := by
  have := Lib.itoa_length_le v h0 h1
  unfold numT
  simpa [ByteArray.size] using this
theorem mtext_size (m : Int) : (mtext m).size ≤ 1 := by
  unfold mtext tOne tAff tMany
  split
  · decide
  · split <;> decide
theorem mayT_range {t : TyD} (h : mayT t = true) : 0 ≤ t.n ∧ t.n < 1048576 := by
  rw [mayT_eq, Bool.and_eq_true] at h
  have h1 := h.1
  unfold isN at h1
  simp only [Bool.and_eq_true, decide_eq_true_eq] at h1
  refine ⟨h1.1.1.1.1.2, ?_⟩
  have h2 := h1.1.1.1.2
  unfold mostI at h2
  split at h2
  · omega
  · split at h2 <;> omega

def txPar (b : Bool) (s : List UInt8) : List UInt8 := if b then 40 :: (s ++ [41]) else s
def txMark (v c : Int) : List UInt8 := [32, 45] ++ (if c = 0 then 109 :: Lib.itoa v else (mtext c).data.toList) ++ [62, 32]
def txHead (ws : List ByteArray) (k n : Int) : List UInt8 := if k = 6 then [65, 114, 114] else if n < ws.length then (ws.getD n.toNat ByteArray.empty).data.toList else 35 :: Lib.itoa n
/-- is it in brackets within data? -/
def txIn (t : TyD) : Bool := t.k == 7 || (decide (t.k ≥ 6) && decide (0 < t.l.length))
/-- the text of a type -/
def txB (ws : List ByteArray) : TyD → List UInt8
  | .mk k n v c l => if k = 1 then 97 :: Lib.itoa n else if k = 2 then [73, 110, 116] else if k = 3 then [83, 116, 114] else if k = 4 then [73, 111] else if k = 5 then [70, 105, 108, 101] else if k = 7 then funL ws (txMark v c) 0 l else txHead ws k n ++ dataL ws l
where
  funL (ws : List ByteArray) (mk : List UInt8) : Nat → List TyD → List UInt8
    | _, [] => []
    | i, t :: r => ((if i = 1 then mk else []) ++ txPar (decide (i = 0) && t.k == 7) (txB ws t)) ++ funL ws mk (i + 1) r
  dataL (ws : List ByteArray) : List TyD → List UInt8
    | [] => []
    | t :: r => (32 :: txPar (txIn t) (txB ws t)) ++ dataL ws r
theorem txB_eq (ws : List ByteArray) (t : TyD) : txB ws t = if t.k = 1 then 97 :: Lib.itoa t.n else if t.k = 2 then [73, 110, 116] else if t.k = 3 then [83, 116, 114] else if t.k = 4 then [73, 111] else if t.k = 5 then [70, 105, 108, 101] else if t.k = 7 then txB.funL ws (txMark t.v t.c) 0 t.l else txHead ws t.k t.n ++ txB.dataL ws t.l := by
  cases t; rw [txB]; rfl
theorem funL_append (ws : List ByteArray) (mk : List UInt8) : ∀ (a b : List TyD) (i : Nat), txB.funL ws mk i (a ++ b) = txB.funL ws mk i a ++ txB.funL ws mk (i + a.length) b
  | [], b, i => by simp [txB.funL]
  | t :: r, b, i => by
    rw [List.cons_append, txB.funL, funL_append ws mk r b (i + 1), txB.funL, List.length_cons, show i + 1 + r.length = i + (r.length + 1) from by omega]
    simp only [List.append_assoc]
theorem dataL_append (ws : List ByteArray) : ∀ (a b : List TyD), txB.dataL ws (a ++ b) = txB.dataL ws a ++ txB.dataL ws b
  | [], b => by simp [txB.dataL]
  | t :: r, b => by
    rw [List.cons_append, txB.dataL, dataL_append ws r b, txB.dataL, List.append_assoc]
theorem funL_step (ws : List ByteArray) (mk : List UInt8) (l : List TyD) (k : Nat) (h : k < l.length) :
    txB.funL ws mk 0 (l.take (k + 1)) = txB.funL ws mk 0 (l.take k) ++ ((if k = 1 then mk else []) ++ txPar (decide (k = 0) && l[k].k == 7) (txB ws l[k])) := by
  rw [List.take_succ_eq_append_getElem h, funL_append, List.length_take, Nat.min_eq_left (Nat.le_of_lt h), Nat.zero_add, txB.funL, txB.funL, List.append_nil]
theorem dataL_step (ws : List ByteArray) (l : List TyD) (k : Nat) (h : k < l.length) :
    txB.dataL ws (l.take (k + 1)) = txB.dataL ws (l.take k) ++ (32 :: txPar (txIn l[k]) (txB ws l[k])) := by
  rw [List.take_succ_eq_append_getElem h, dataL_append, txB.dataL, txB.dataL, List.append_nil]
theorem funL_le (ws : List ByteArray) (mk : List UInt8) (l : List TyD) (k : Nat) : (txB.funL ws mk 0 (l.take k)).length ≤ (txB.funL ws mk 0 l).length := by
  have h := funL_append ws mk (l.take k) (l.drop k) 0
  rw [List.take_append_drop] at h
  rw [h, List.length_append]
  omega
theorem dataL_le (ws : List ByteArray) (l : List TyD) (k : Nat) : (txB.dataL ws (l.take k)).length ≤ (txB.dataL ws l).length := by
  have h := dataL_append ws (l.take k) (l.drop k)
  rw [List.take_append_drop] at h
  rw [h, List.length_append]
  omega

/-- a slice of texts -/
def NmV (w : World) (B : Nat) (A : Option Addr) (n c : Nat) (l : List ByteArray) : Prop := Rd w B 1 A n (l.map Value.string) ∧ n ≤ c ∧ c ≤ maxLen
section
variable {w w' : World} {B n c : Nat} {A : Option Addr} {l : List ByteArray}
theorem NmV.len (h : NmV w B A n c l) : l.length = n := by simpa using h.1.1
theorem NmV.below (h : NmV w B A n c l) (hb : Below B w w') : NmV w' B A n c l := ⟨h.1.below hb, h.2⟩
theorem NmV.more {B' : Nat} (h : NmV w B A n c l) (hb : B ≤ B') : NmV w B' A n c l := ⟨h.1.more hb, h.2⟩
theorem NmV.nil : NmV w B none 0 0 [] := ⟨Rd.nil, Nat.le_refl _, Nat.zero_le _⟩
theorem NmV.cells (h : NmV w B A n c l) (hn : 0 < n) : ∃ b off, A = some ⟨b, off, none⟩ ∧ ∀ j, j < l.length → w.cell? ⟨b, off + j, none⟩ = some (.string (l.getD j ByteArray.empty)) := by
  obtain ⟨b, off, e, hb, hc⟩ := h.1.2 hn
  exact ⟨b, off, e, fun j hj => hc j _ (by simp [List.getD, hj])⟩
theorem NmV.new (w : World) (l : List ByteArray) (t : TypeId) (hl : l.length ≤ maxLen) : NmV (w.alloc (.cells (l.map Value.string).toArray t)) (w.heap.size + 1) (some ⟨w.heap.size, 0, none⟩) l.length l.length l := by
  have h := Rd.new w (l.map Value.string) t
  rw [List.length_map] at h
  exact ⟨h, Nat.le_refl _, hl⟩
end

theorem Blk.others {w w' : World} {g : Nat} {t e : TypeId} {cs : Array Value} {b : Option Nat} (h : Blk w g t cs) (ho : Lib.OthersKept e b w w') (hb : some g ≠ b) (ht : t ≠ e) : Blk w' g t cs :=
  ho g _ h hb (fun c fz e => by injection e with _ e2 _; exact ht e2)
/-- what put writes of the type t -/
def PutAt (w0 : World) (b : Nat) (nm : Value) (ws : List ByteArray) (t : TyD) (A : Option Addr) (m cp : Nat) : Prop :=
  ∀ (w : World) (l : List UInt8), Below w0.heap.size w0 w → IsWr w0.heap.size b nm (Lib.byteCells l) w → l.length + (txB ws t).length ≤ 140737488355328 →
    Calls Tryd.prog 41 #[.pointer (some ⟨b, 0, none⟩), .agg #[.int .u8 t.k, .int .i64 t.n, .int .i64 t.v, .int .u8 t.c, .slice A m cp]] w fun e w' => e = .returned (.tuple #[]) ∧ WrOut w0.heap.size b nm (Lib.byteCells (l ++ txB ws t)) w w'
theorem wrB {B b : Nat} {nm : Value} {l : List UInt8} (c : UInt8) {w : World} (h : IsWr B b nm (Lib.byteCells l) w) (hlen : l.length + 1 ≤ 140737488355328) (hBw : B ≤ w.heap.size) :
    Calls Tryd.prog 75 #[.pointer (some ⟨b, 0, none⟩), .int .u8 c.toNat] w fun e w' => e = .returned .nilIface ∧ WrOut B b nm (Lib.byteCells (l ++ [c])) w w' := by
  have := writeByte_any B b nm (Lib.byteCells l) c.toNat w h (by rw [Lib.byteCells_length]; exact hlen) hBw
  rw [Lib.byteCells_append]
  exact this
theorem wrS {B b : Nat} {nm : Value} {l : List UInt8} (s : ByteArray) {w : World} (h : IsWr B b nm (Lib.byteCells l) w) (hlen : l.length + s.data.toList.length ≤ 140737488355328) (hBw : B ≤ w.heap.size) :
    Calls Tryd.prog 72 #[.pointer (some ⟨b, 0, none⟩), .string s] w fun e w' => e = .returned (.tuple #[.int .i64 s.size, .nilIface]) ∧ WrOut B b nm (Lib.byteCells (l ++ s.data.toList)) w w' := by
  have := writeString_any B b nm (Lib.byteCells l) s w h (by rw [Lib.byteCells_length]; exact hlen) hBw
  rw [Lib.byteCells_append]
  exact this
theorem WrOut.is {B b : Nat} {nm : Value} {bs : List Value} {w w' : World} (h : WrOut B b nm bs w w') : IsWr B b nm bs w' := .inr h.1
theorem WrOut.trans {B b : Nat} {nm : Value} {bs bs' : List Value} {w w1 w2 : World} (h : WrOut B b nm bs w w1) (h2 : WrOut B b nm bs' w1 w2) : WrOut B b nm bs' w w2 :=
  ⟨h2.1, h.2.1.trans h2.2.1, h.2.2.trans h2.2.2⟩
/-- behind what laid new blocks -/
theorem WrOut.behind {B b : Nat} {nm : Value} {bs : List Value} {w w1 w2 : World} (h : Below w.heap.size w w1) (hB : B ≤ w.heap.size) (h2 : WrOut B b nm bs w1 w2) : WrOut B b nm bs w w2 :=
  ⟨h2.1, (h.mono hB).trans h2.2.1, (others_below (Lib.OthersKept.refl _ _ w) h).trans h2.2.2⟩

set_option maxRecDepth 100000 in
set_option maxHeartbeats 1000000 in
theorem in_any {w0 : World} {b : Nat} {nm : Value} {ws : List ByteArray} {t : TyD} {A : Option Addr} {m cp : Nat} (hp : PutAt w0 b nm ws t A m cp) (must : Bool) (w : World) (l : List UInt8) (hbel : Below w0.heap.size w0 w) (hw : IsWr w0.heap.size b nm (Lib.byteCells l) w) (hlen : l.length + (txPar must (txB ws t)).length ≤ 140737488355328) :
    Calls Tryd.prog 71 #[.pointer (some ⟨b, 0, none⟩), .agg #[.int .u8 t.k, .int .i64 t.n, .int .i64 t.v, .int .u8 t.c, .slice A m cp], .bool must] w fun e w' => e = .returned (.tuple #[]) ∧ WrOut w0.heap.size b nm (Lib.byteCells (l ++ txPar must (txB ws t))) w w' := by
  have hbx := below_box (w := w) (Obj.cells #[.int .u8 t.k, .int .i64 t.n, .int .i64 t.v, .int .u8 t.c, .slice A m cp] 27)
  have hz := blk_new w #[.int .u8 t.k, .int .i64 t.n, .int .i64 t.v, .int .u8 t.c, .slice A m cp] 27
  have hw1 := hw.alloc (Obj.cells #[.int .u8 t.k, .int .i64 t.n, .int .i64 t.v, .int .u8 t.c, .slice A m cp] 27)
  have hne : some w.heap.size ≠ some b := by have := hw.lt; simp; omega
  obtain ⟨W, hW⟩ : ∃ W, w.alloc (Obj.cells #[.int .u8 t.k, .int .i64 t.n, .int .i64 t.v, .int .u8 t.c, .slice A m cp] 27) = W := ⟨_, rfl⟩
  rw [hW] at hbx hz hw1
  have hbel1 := hbel.trans (hbx.mono hbel.size)
  have HW := Lib.hid hW
  have Hw1 := Lib.hid hw1
  have Hbx := Lib.hid hbx
  have Hb1 := Lib.hid hbel1
  have Hp := Lib.hid hp
  have hB := hbel.size
  clear hW hw1 hbx hbel1 hbel hw hp
  cases must
  · have z0 := hz.cell 0
    have z1 := hz.cell 1
    have z2 := hz.cell 2
    have z3 := hz.cell 3
    have z4 := hz.cell 4
    have Hlen := Lib.hid hlen
    clear hz hlen
    go_enter Tryd.func71, Tryd.ntmps71
    go_wp2_with fail
    rw [HW.out]
    go_wp2_with fail
    refine (Hp.out W l Hb1.out Hw1.out Hlen.out).mono ?_
    rintro e w1 ⟨rfl, h1⟩
    go_wp2_with fail
    exact bodyPost_ret (v := .tuple #[]) (results_none rfl _ _ _) rfl ⟨rfl, h1.behind Hbx.out hB⟩
  · have hl2 : l.length + (txB ws t).length + 2 ≤ 140737488355328 := by
      have h := hlen
      simp only [txPar, if_true, List.length_cons, List.length_append, List.length_nil] at h
      omega
    clear hlen
    have h40 := wrB (40 : UInt8) Hw1.out (by omega) Hb1.out.size
    have H40 := Lib.hid h40
    have Hl2 := Lib.hid hl2
    have Hz := Lib.hid hz
    clear h40 hl2 hz
    go_enter Tryd.func71, Tryd.ntmps71
    go_wp2_with fail
    rw [HW.out]
    go_wp2_with fail
    refine H40.out.mono ?_
    rintro e w1 ⟨rfl, h1⟩
    have hz1 := Hz.out.others h1.2.2 hne (by decide)
    have z0 := hz1.cell 0
    have z1 := hz1.cell 1
    have z2 := hz1.cell 2
    have z3 := hz1.cell 3
    have z4 := hz1.cell 4
    have hbelA := Hb1.out.trans h1.2.1
    have hq := Hp.out w1 (l ++ [40]) hbelA h1.is (by have := Hl2.out; rw [List.length_append]; simp only [List.length_cons, List.length_nil]; omega)
    have Hq := Lib.hid hq
    have H1 := Lib.hid h1
    have HbA := Lib.hid hbelA
    clear hq h1 hbelA hz1
    go_wp2_with fail
    refine Hq.out.mono ?_
    rintro e w2 ⟨rfl, h2⟩
    have h41 := wrB (41 : UInt8) h2.is (by have := Hl2.out; rw [List.length_append, List.length_append]; simp only [List.length_cons, List.length_nil]; omega) (HbA.out.trans h2.2.1).size
    have H41 := Lib.hid h41
    have H2 := Lib.hid h2
    clear h41 h2
    go_wp2_with fail
    refine H41.out.mono ?_
    rintro e w3 ⟨rfl, h3⟩
    have H3 := Lib.hid h3
    clear h3
    go_wp2_with fail
    go_end0
    have h := ((H1.out.trans H2.out).trans H3.out).behind Hbx.out hB
    refine ⟨rfl, ?_⟩
    have e : l ++ txPar true (txB ws t) = l ++ [40] ++ txB ws t ++ [41] := by simp [txPar]
    rw [e]
    exact h

end Go.Proofs.YtidamlkekgnhgaaDoor
