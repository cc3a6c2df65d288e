import Derived.Test.YtgpeijkjmkocgaaDoorM8
import Derived.Test.YtgpeijkjmkocgaaDoorShelfP
import Derived.Shelf.Unicode.PredsPay
import Derived.Lib.ItoaLen
import Derived.Lib.ItoaMem
import Derived.Lib.CleanWalkFns
import Derived.Lib.RowBridge
set_option linter.unusedVariables false
set_option linter.unusedSimpArgs false
set_option maxHeartbeats 1000000
set_option maxRecDepth 100000
namespace Go.Proofs.YtgpeijkjmkocgaaDoor
open Go.RowKit
def Tab (w:World):Prop:=Lib.TabIs Tryd.prog w "internal/strconv.uint64pow10" .u64 Lib.pow10Tab
theorem gTab:∃ g,Tryd.prog.globalNamed "internal/strconv.uint64pow10"=some g:=Option.isSome_iff_exists.1 (by kernel_rfl)
theorem Tab.below {w w':World} (h:Tab w) (hb:Below w.heap.size w w'):Tab w':=by
 obtain⟨g,hg⟩:=gTab;exact TabIs_below hg h hb
def numT (n:Int):ByteArray:=⟨(Lib.itoa n).toArray⟩
theorem below_grow {w:World} (k:Nat) (os:Array Obj):Below w.heap.size w (Go.Sort.grow (w.drewN k) os):=
 ⟨rfl,rfl,rfl,by simp[Go.Sort.grow,World.drewN],fun j hj=>by simp[Go.Sort.grow,World.drewN,Array.getElem?_append,hj]⟩
theorem itoa_any (n:Int) (h0 : -9223372036854775808≤n) (h1:n≤9223372036854775807) (w:World) (ht:Tab w):
  Calls Tryd.prog 75 #[.int .i64 n] w fun e w'=>e=.returned (.string (numT n))∧Below w.heap.size w w':=
 (Tryd.strconv_Itoa n h0 h1 w ht).mono fun e w' ⟨he,k,os,hw⟩=>⟨he,by rw[hw]; exact below_grow k os⟩
theorem numT_size (v:Int) (h0 : -9223372036854775808≤v) (h1:v≤9223372036854775807):(numT v).size≤21:=by
 have:=Lib.itoa_length_le v h0 h1;unfold numT
 simpa[ByteArray.size] using this
theorem mtext_size (m:Int):(mtext m).size≤1:=by
 unfold mtext tOne tAff tMany
 split
 · decide
 · split <;> decide
theorem mayT_range {t:TyD} (h:mayT t=true):0≤t.n∧t.n<1048576:=by
 rw[mayT_eq,Bool.and_eq_true] at h;have h1:=h.1;unfold isN at h1;simp only[Bool.and_eq_true,decide_eq_true_eq] at h1;refine⟨h1.1.1.1.1.2,?_⟩;have h2:=h1.1.1.1.2;unfold mostI at h2
 split at h2
 · omega
 · split at h2 <;> omega
def txPar (b:Bool) (s:List UInt8):List UInt8:=if b then 40 :: (s++[41]) else s
def txMark (v c:Int):List UInt8:=[32,45]++(if c=0 then 109 :: Lib.itoa v else (mtext c).data.toList)++[62,32]
def txHead (ws:List ByteArray) (k n:Int):List UInt8:=if k=6 then [65,114,114] else if n<ws.length then (ws.getD n.toNat ByteArray.empty).data.toList else 35 :: Lib.itoa n
def txIn (t:TyD):Bool:=t.k==7 || (decide (t.k≥6)&&decide (0<t.l.length))
def txB (ws:List ByteArray):TyD→List UInt8
 | .mk k n v c l=>if k=1 then 97 :: Lib.itoa n else if k=2 then [73,110,116] else if k=3 then [83,116,114] else if k=4 then [73,111] else if k=5 then [70,105,108,101] else if k=7 then funL ws (txMark v c) 0 l else txHead ws k n++dataL ws l
where
 funL (ws:List ByteArray) (mk:List UInt8):Nat→List TyD→List UInt8
  | _,[]=>[]
  | i,t :: r=>((if i=1 then mk else [])++txPar (decide (i=0)&&t.k==7) (txB ws t))++funL ws mk (i+1) r
 dataL (ws:List ByteArray):List TyD→List UInt8
  | []=>[]
  | t :: r=>(32 :: txPar (txIn t) (txB ws t))++dataL ws r
theorem txB_eq (ws:List ByteArray) (t:TyD):txB ws t=if t.k=1 then 97 :: Lib.itoa t.n else if t.k=2 then [73,110,116] else if t.k=3 then [83,116,114] else if t.k=4 then [73,111] else if t.k=5 then [70,105,108,101] else if t.k=7 then txB.funL ws (txMark t.v t.c) 0 t.l else txHead ws t.k t.n++txB.dataL ws t.l:=by
 cases t; rw[txB]; rfl
theorem dataL_append (ws:List ByteArray):∀ (a b:List TyD),txB.dataL ws (a++b)=txB.dataL ws a++txB.dataL ws b
 | [],b=>by simp[txB.dataL]
 | t :: r,b=>by
   rw[List.cons_append,txB.dataL,dataL_append ws r b,txB.dataL,List.append_assoc]
theorem dataL_step (ws:List ByteArray) (l:List TyD) (k:Nat) (h:k<l.length):
  txB.dataL ws (l.take (k+1))=txB.dataL ws (l.take k)++(32 :: txPar (txIn l[k]) (txB ws l[k])):=by
 rw[List.take_succ_eq_append_getElem h,dataL_append,txB.dataL,txB.dataL,List.append_nil]
theorem dataL_le (ws:List ByteArray) (l:List TyD) (k:Nat):(txB.dataL ws (l.take k)).length≤(txB.dataL ws l).length:=by
 have h:=dataL_append ws (l.take k) (l.drop k);rw[List.take_append_drop] at h;rw[h,List.length_append];omega
def NmV (w:World) (B:Nat) (A:Option Addr) (n c:Nat) (l:List ByteArray):Prop:=Rd w B 1 A n (l.map Value.string)∧n≤c∧c≤maxLen
section
variable {w w':World} {B n c:Nat} {A:Option Addr} {l:List ByteArray}
theorem NmV.len (h:NmV w B A n c l):l.length=n:=by simpa using h.1.1
theorem NmV.below (h:NmV w B A n c l) (hb:Below B w w'):NmV w' B A n c l:=⟨h.1.below hb,h.2⟩
theorem NmV.more {B':Nat} (h:NmV w B A n c l) (hb:B≤B'):NmV w B' A n c l:=⟨h.1.more hb,h.2⟩
theorem NmV.nil:NmV w B none 0 0 []:=⟨Rd.nil,Nat.le_refl _,Nat.zero_le _⟩
theorem NmV.cells (h:NmV w B A n c l) (hn:0<n):∃ b off,A=some ⟨b,off,none⟩∧∀ j,j<l.length→w.cell? ⟨b,off+j,none⟩=some (.string (l.getD j ByteArray.empty)):=by
 obtain⟨b,off,e,hb,hc⟩:=h.1.2 hn;exact⟨b,off,e,fun j hj=>hc j _ (by simp[List.getD,hj])⟩
theorem NmV.new (w:World) (l:List ByteArray) (t:TypeId) (hl:l.length≤maxLen):NmV (w.alloc (.cells (l.map Value.string).toArray t)) (w.heap.size+1) (some ⟨w.heap.size,0,none⟩) l.length l.length l:=by
 have h:=Rd.new w (l.map Value.string) t;rw[List.length_map] at h;exact⟨h,Nat.le_refl _,hl⟩
end
theorem Blk.others {w w':World} {g:Nat} {t e:TypeId} {cs:Array Value} {b:Option Nat} (h:Blk w g t cs) (ho:Lib.OthersKept e b w w') (hb:some g≠b) (ht:t≠e):Blk w' g t cs:=
 ho g _ h hb (fun c fz e=>by injection e with _ e2 _; exact ht e2)
def PutAt (w0:World) (b:Nat) (nm:Value) (ws:List ByteArray) (t:TyD) (A:Option Addr) (m cp:Nat):Prop:=
 ∀ (w:World) (l:List UInt8),Below w0.heap.size w0 w→IsWr w0.heap.size b nm (Lib.byteCells l) w→l.length+(txB ws t).length≤140737488355328 →
  Calls Tryd.prog 41 #[.pointer (some ⟨b,0,none⟩),.agg #[.int .u8 t.k,.int .i64 t.n,.int .i64 t.v,.int .u8 t.c,.slice A m cp]] w fun e w'=>e=.returned (.tuple #[])∧WrOut w0.heap.size b nm (Lib.byteCells (l++txB ws t)) w w'
theorem wrB {B b:Nat} {nm:Value} {l:List UInt8} (c:UInt8) {w:World} (h:IsWr B b nm (Lib.byteCells l) w) (hlen:l.length+1≤140737488355328) (hBw:B≤w.heap.size):
  Calls Tryd.prog 77 #[.pointer (some ⟨b,0,none⟩),.int .u8 c.toNat] w fun e w'=>e=.returned .nilIface∧WrOut B b nm (Lib.byteCells (l++[c])) w w':=by
 have:=writeByte_any B b nm (Lib.byteCells l) c.toNat w h (by rw[Lib.byteCells_length]; exact hlen) hBw
 rw[Lib.byteCells_append];exact this
theorem wrS {B b:Nat} {nm:Value} {l:List UInt8} (s:ByteArray) {w:World} (h:IsWr B b nm (Lib.byteCells l) w) (hlen:l.length+s.data.toList.length≤140737488355328) (hBw:B≤w.heap.size):
  Calls Tryd.prog 74 #[.pointer (some ⟨b,0,none⟩),.string s] w fun e w'=>e=.returned (.tuple #[.int .i64 s.size,.nilIface])∧WrOut B b nm (Lib.byteCells (l++s.data.toList)) w w':=by
 have:=writeString_any B b nm (Lib.byteCells l) s w h (by rw[Lib.byteCells_length]; exact hlen) hBw
 rw[Lib.byteCells_append];exact this
theorem WrOut.is {B b:Nat} {nm:Value} {bs:List Value} {w w':World} (h:WrOut B b nm bs w w'):IsWr B b nm bs w':=.inr h.1
theorem WrOut.trans {B b:Nat} {nm:Value} {bs bs':List Value} {w w1 w2:World} (h:WrOut B b nm bs w w1) (h2:WrOut B b nm bs' w1 w2):WrOut B b nm bs' w w2:=
 ⟨h2.1,h.2.1.trans h2.2.1,h.2.2.trans h2.2.2⟩
theorem WrOut.behind {B b:Nat} {nm:Value} {bs:List Value} {w w1 w2:World} (h:Below w.heap.size w w1) (hB:B≤w.heap.size) (h2:WrOut B b nm bs w1 w2):WrOut B b nm bs w w2:=
 ⟨h2.1,(h.mono hB).trans h2.2.1,(others_below (Lib.OthersKept.refl _ _ w) h).trans h2.2.2⟩
theorem in_any {w0:World} {b:Nat} {nm:Value} {ws:List ByteArray} {t:TyD} {A:Option Addr} {m cp:Nat} (hp:PutAt w0 b nm ws t A m cp) (must:Bool) (w:World) (l:List UInt8) (hbel:Below w0.heap.size w0 w) (hw:IsWr w0.heap.size b nm (Lib.byteCells l) w) (hlen:l.length+(txPar must (txB ws t)).length≤140737488355328):
  Calls Tryd.prog 73 #[.pointer (some ⟨b,0,none⟩),.agg #[.int .u8 t.k,.int .i64 t.n,.int .i64 t.v,.int .u8 t.c,.slice A m cp],.bool must] w fun e w'=>e=.returned (.tuple #[])∧WrOut w0.heap.size b nm (Lib.byteCells (l++txPar must (txB ws t))) w w':=by
 have hbx:=below_box (w:=w) (Obj.cells #[.int .u8 t.k,.int .i64 t.n,.int .i64 t.v,.int .u8 t.c,.slice A m cp] 63);have hz:=blk_new w #[.int .u8 t.k,.int .i64 t.n,.int .i64 t.v,.int .u8 t.c,.slice A m cp] 63;have hw1:=hw.alloc (Obj.cells #[.int .u8 t.k,.int .i64 t.n,.int .i64 t.v,.int .u8 t.c,.slice A m cp] 63)
 have hne:some w.heap.size≠some b:=by have:=hw.lt; simp; omega
 obtain⟨W,hW⟩:∃ W,w.alloc (Obj.cells #[.int .u8 t.k,.int .i64 t.n,.int .i64 t.v,.int .u8 t.c,.slice A m cp] 63)=W:=⟨_,rfl⟩;rw[hW] at hbx hz hw1;have hbel1:=hbel.trans (hbx.mono hbel.size);have HW:=qq hW;have Hw1:=qq hw1;have Hbx:=qq hbx;have Hb1:=qq hbel1;have Hp:=qq hp;have hB:=hbel.size;clear hW hw1 hbx hbel1 hbel hw hp
 cases must
 · have z0:=hz.cell 0
   have z1:=hz.cell 1;have z2:=hz.cell 2;have z3:=hz.cell 3;have z4:=hz.cell 4;have Hlen:=qq hlen;clear hz hlen
   go_enter Tryd.func73,Tryd.ntmps73
   go_wp2_with fail;rw[HW.out];go_wp2_with fail;refine(Hp.out W l Hb1.out Hw1.out Hlen.out).mono ?_;rintro e w1 ⟨rfl,h1⟩;go_wp2_with fail;exact bodyPost_ret (v:=.tuple #[]) (results_none rfl _ _ _) rfl ⟨rfl,h1.behind Hbx.out hB⟩
 · have hl2:l.length+(txB ws t).length+2≤140737488355328:=by
    have h:=hlen;simp only[txPar,if_true,List.length_cons,List.length_append,List.length_nil] at h;omega
   clear hlen;have h40:=wrB (40:UInt8) Hw1.out (by omega) Hb1.out.size;have H40:=qq h40;have Hl2:=qq hl2;have Hz:=qq hz;clear h40 hl2 hz
   go_enter Tryd.func73,Tryd.ntmps73
   go_wp2_with fail;rw[HW.out];go_wp2_with fail;refine H40.out.mono ?_;rintro e w1 ⟨rfl,h1⟩;have hz1:=Hz.out.others h1.2.2 hne (by decide);have z0:=hz1.cell 0;have z1:=hz1.cell 1;have z2:=hz1.cell 2;have z3:=hz1.cell 3;have z4:=hz1.cell 4;have hbelA:=Hb1.out.trans h1.2.1
   have hq:=Hp.out w1 (l++[40]) hbelA h1.is (by have:=Hl2.out; rw[List.length_append]; simp only[List.length_cons,List.length_nil]; omega)
   have Hq:=qq hq;have H1:=qq h1;have HbA:=qq hbelA;clear hq h1 hbelA hz1;go_wp2_with fail;refine Hq.out.mono ?_;rintro e w2 ⟨rfl,h2⟩
   have h41:=wrB (41:UInt8) h2.is (by have:=Hl2.out; rw[List.length_append,List.length_append]; simp only[List.length_cons,List.length_nil]; omega) (HbA.out.trans h2.2.1).size
   have H41:=qq h41;have H2:=qq h2;clear h41 h2;go_wp2_with fail;refine H41.out.mono ?_;rintro e w3 ⟨rfl,h3⟩;have H3:=qq h3;clear h3;go_wp2_with fail
   go_end0
   have h:=((H1.out.trans H2.out).trans H3.out).behind Hbx.out hB;refine⟨rfl,?_⟩
   have e:l++txPar true (txB ws t)=l++[40]++txB ws t++[41]:=by simp[txPar]
   rw[e];exact h
theorem put_var {w0:World} {b:Nat} {nm:Value} {ws:List ByteArray} (n v c:Int) (L:List TyD) (A:Option Addr) (m cp:Nat) (ht:Tab w0) (h0:0≤n) (h1:n<1048576):PutAt w0 b nm ws (.mk 1 n v c L) A m cp:=by
 intro w l hbel hw hlen;show Calls Tryd.prog 41 #[.pointer (some ⟨b,0,none⟩),.agg #[.int .u8 1,.int .i64 n,.int .i64 v,.int .u8 c,.slice A m cp]] w _;have hbx:=below_box (w:=w) (Obj.cells #[.int .u8 1,.int .i64 n,.int .i64 v,.int .u8 c,.slice A m cp] 63);have hz:=blk_new w #[.int .u8 1,.int .i64 n,.int .i64 v,.int .u8 c,.slice A m cp] 63;have hw1:=hw.alloc (Obj.cells #[.int .u8 1,.int .i64 n,.int .i64 v,.int .u8 c,.slice A m cp] 63)
 have hne:some w.heap.size≠some b:=by have:=hw.lt; simp; omega
 have hzl:=hz.lt;obtain⟨W,hW⟩:∃ W,w.alloc (Obj.cells #[.int .u8 1,.int .i64 n,.int .i64 v,.int .u8 c,.slice A m cp] 63)=W:=⟨_,rfl⟩;rw[hW] at hbx hz hw1 hzl;have hbel1:=hbel.trans (hbx.mono hbel.size);have HW:=qq hW;have Hw1:=qq hw1;have Hbx:=qq hbx;have Hz:=qq hz;have Hlen:=qq hlen;have hB:=hbel.size;have hB1:=hbel1.size;have Hb1:=qq hbel1;clear hW hw1 hbx hbel1 hbel hw hlen;have hnl:(numT n).size≤21:=numT_size _ (by omega) (by omega)
 have htx:txB ws (.mk 1 n v c L)=97 :: Lib.itoa n:=by rw[txB_eq]; rfl
 have hbs:((⟨#[97]⟩:ByteArray)++numT n).data.toList=97 :: Lib.itoa n:=by simp[numT]
 rw[htx] at Hlen ⊢;have ht1:=qq (ht.below Hb1.out);have Hbs:=qq hbs;have hcat:(9223372036854775807<1+(numT n).size)=False:=eq_false (by omega);clear hbs htx;have z0:=Hz.out.cell 0
 go_enter Tryd.func41,Tryd.ntmps41
 go_wp2_with fail;rw[HW.out];go_wp2_with fail;have z1:=Hz.out.cell 1
 go_region_held3 (fun w'=>w'.cell? ⟨w.heap.size,1,none⟩=some (.int .i64 n))
  (first | go_keep | exact(hbS.cell (p:=⟨w.heap.size,1,none⟩) hzl).trans z1 | exact z9)
  ((first
    | (go_at_call 75; refine(itoa_any n (by omega) (by omega) W.drew ht1.out).mono ?_; rintro e wx ⟨rfl,hbS0⟩; have hbS:=(Below.drew (Below.refl W.heap.size W)).trans hbS0; clear hbS0)
    | (go_at_call 74; refine(wrS _ (IsWr.below Hw1.out hbS) (by rw[Hbs.out]; exact Hlen.out) (Nat.le_trans hB1 hbS.size)).mono ?_; rintro e wy ⟨rfl,hq⟩; have z9:=((Hz.out.below hbS hzl).others hq.2.2 hne (by decide)).cell 1)))
 all_goals
  go_wp2_with fail;rw[Hbs.out] at hq
  go_end0
  exact⟨rfl,(hq.behind hbS hB1).behind Hbx.out hB⟩
theorem put_word2 {w0:World} {b:Nat} {nm:Value} {ws:List ByteArray} (n v c:Int) (L:List TyD) (A:Option Addr) (m cp:Nat):PutAt w0 b nm ws (.mk 2 n v c L) A m cp:=by
 intro w l hbel hw hlen;show Calls Tryd.prog 41 #[.pointer (some ⟨b,0,none⟩),.agg #[.int .u8 2,.int .i64 n,.int .i64 v,.int .u8 c,.slice A m cp]] w _;have hbx:=below_box (w:=w) (Obj.cells #[.int .u8 2,.int .i64 n,.int .i64 v,.int .u8 c,.slice A m cp] 63);have hz:=blk_new w #[.int .u8 2,.int .i64 n,.int .i64 v,.int .u8 c,.slice A m cp] 63;have hw1:=hw.alloc (Obj.cells #[.int .u8 2,.int .i64 n,.int .i64 v,.int .u8 c,.slice A m cp] 63)
 have hne:some w.heap.size≠some b:=by have:=hw.lt; simp; omega
 have hzl:=hz.lt;obtain⟨W,hW⟩:∃ W,w.alloc (Obj.cells #[.int .u8 2,.int .i64 n,.int .i64 v,.int .u8 c,.slice A m cp] 63)=W:=⟨_,rfl⟩;rw[hW] at hbx hz hw1 hzl;have hbel1:=hbel.trans (hbx.mono hbel.size);have HW:=qq hW;have Hw1:=qq hw1;have Hbx:=qq hbx;have Hz:=qq hz;have Hlen:=qq hlen;have hB:=hbel.size;have hB1:=hbel1.size;have Hb1:=qq hbel1;clear hW hw1 hbx hbel1 hbel hw hlen
 have htx:txB ws (.mk 2 n v c L)=[73,110,116]:=by rw[txB_eq]; rfl
 have z0:=Hz.out.cell 0
 have hix:∀ w9,(Instr.index 149 (.agg #[.string ⟨#[]⟩,.string ⟨#[]⟩,.string ⟨#[73,110,116]⟩,.string ⟨#[83,116,114]⟩,.string ⟨#[73,111]⟩,.string ⟨#[70,105,108,101]⟩]) (.int .u8 2)).run Tryd.prog w9=.ok (.string ⟨#[73,110,116]⟩) w9:=fun _=>by kernel_rfl
 rw[htx] at Hlen ⊢;clear htx
 go_enter Tryd.func41,Tryd.ntmps41
 go_wp2_with fail;rw[HW.out];go_wp2_with fail
 go_region_held3 (fun w'=>w'.cell? ⟨w.heap.size,0,none⟩=some (.int .u8 2))
  (first | go_keep | exact z9)
  ((first
    | (go_at_call 74; refine(wrS ⟨#[73,110,116]⟩ (w:=W.drew) Hw1.out Hlen.out hB1).mono ?_; rintro e wy ⟨rfl,hq⟩; have z9:=(Hz.out.others (w:=W.drew) hq.2.2 hne (by decide)).cell 0)))
 all_goals
  go_wp2_with fail
  go_end0
  exact⟨rfl,hq.behind (w1:=W.drew) (Hbx.out.trans (Below.drew (Below.refl _ W))) hB⟩
theorem put_word3 {w0:World} {b:Nat} {nm:Value} {ws:List ByteArray} (n v c:Int) (L:List TyD) (A:Option Addr) (m cp:Nat):PutAt w0 b nm ws (.mk 3 n v c L) A m cp:=by
 intro w l hbel hw hlen;show Calls Tryd.prog 41 #[.pointer (some ⟨b,0,none⟩),.agg #[.int .u8 3,.int .i64 n,.int .i64 v,.int .u8 c,.slice A m cp]] w _;have hbx:=below_box (w:=w) (Obj.cells #[.int .u8 3,.int .i64 n,.int .i64 v,.int .u8 c,.slice A m cp] 63);have hz:=blk_new w #[.int .u8 3,.int .i64 n,.int .i64 v,.int .u8 c,.slice A m cp] 63;have hw1:=hw.alloc (Obj.cells #[.int .u8 3,.int .i64 n,.int .i64 v,.int .u8 c,.slice A m cp] 63)
 have hne:some w.heap.size≠some b:=by have:=hw.lt; simp; omega
 have hzl:=hz.lt;obtain⟨W,hW⟩:∃ W,w.alloc (Obj.cells #[.int .u8 3,.int .i64 n,.int .i64 v,.int .u8 c,.slice A m cp] 63)=W:=⟨_,rfl⟩;rw[hW] at hbx hz hw1 hzl;have hbel1:=hbel.trans (hbx.mono hbel.size);have HW:=qq hW;have Hw1:=qq hw1;have Hbx:=qq hbx;have Hz:=qq hz;have Hlen:=qq hlen;have hB:=hbel.size;have hB1:=hbel1.size;have Hb1:=qq hbel1;clear hW hw1 hbx hbel1 hbel hw hlen
 have htx:txB ws (.mk 3 n v c L)=[83,116,114]:=by rw[txB_eq]; rfl
 have z0:=Hz.out.cell 0
 have hix:∀ w9,(Instr.index 149 (.agg #[.string ⟨#[]⟩,.string ⟨#[]⟩,.string ⟨#[73,110,116]⟩,.string ⟨#[83,116,114]⟩,.string ⟨#[73,111]⟩,.string ⟨#[70,105,108,101]⟩]) (.int .u8 3)).run Tryd.prog w9=.ok (.string ⟨#[83,116,114]⟩) w9:=fun _=>by kernel_rfl
 rw[htx] at Hlen ⊢;clear htx
 go_enter Tryd.func41,Tryd.ntmps41
 go_wp2_with fail;rw[HW.out];go_wp2_with fail
 go_region_held3 (fun w'=>w'.cell? ⟨w.heap.size,0,none⟩=some (.int .u8 3))
  (first | go_keep | exact z9)
  ((first
    | (go_at_call 74; refine(wrS ⟨#[83,116,114]⟩ (w:=W.drew) Hw1.out Hlen.out hB1).mono ?_; rintro e wy ⟨rfl,hq⟩; have z9:=(Hz.out.others (w:=W.drew) hq.2.2 hne (by decide)).cell 0)))
 all_goals
  go_wp2_with fail
  go_end0
  exact⟨rfl,hq.behind (w1:=W.drew) (Hbx.out.trans (Below.drew (Below.refl _ W))) hB⟩
theorem put_word4 {w0:World} {b:Nat} {nm:Value} {ws:List ByteArray} (n v c:Int) (L:List TyD) (A:Option Addr) (m cp:Nat):PutAt w0 b nm ws (.mk 4 n v c L) A m cp:=by
 intro w l hbel hw hlen;show Calls Tryd.prog 41 #[.pointer (some ⟨b,0,none⟩),.agg #[.int .u8 4,.int .i64 n,.int .i64 v,.int .u8 c,.slice A m cp]] w _;have hbx:=below_box (w:=w) (Obj.cells #[.int .u8 4,.int .i64 n,.int .i64 v,.int .u8 c,.slice A m cp] 63);have hz:=blk_new w #[.int .u8 4,.int .i64 n,.int .i64 v,.int .u8 c,.slice A m cp] 63;have hw1:=hw.alloc (Obj.cells #[.int .u8 4,.int .i64 n,.int .i64 v,.int .u8 c,.slice A m cp] 63)
 have hne:some w.heap.size≠some b:=by have:=hw.lt; simp; omega
 have hzl:=hz.lt;obtain⟨W,hW⟩:∃ W,w.alloc (Obj.cells #[.int .u8 4,.int .i64 n,.int .i64 v,.int .u8 c,.slice A m cp] 63)=W:=⟨_,rfl⟩;rw[hW] at hbx hz hw1 hzl;have hbel1:=hbel.trans (hbx.mono hbel.size);have HW:=qq hW;have Hw1:=qq hw1;have Hbx:=qq hbx;have Hz:=qq hz;have Hlen:=qq hlen;have hB:=hbel.size;have hB1:=hbel1.size;have Hb1:=qq hbel1;clear hW hw1 hbx hbel1 hbel hw hlen
 have htx:txB ws (.mk 4 n v c L)=[73,111]:=by rw[txB_eq]; rfl
 have z0:=Hz.out.cell 0
 have hix:∀ w9,(Instr.index 149 (.agg #[.string ⟨#[]⟩,.string ⟨#[]⟩,.string ⟨#[73,110,116]⟩,.string ⟨#[83,116,114]⟩,.string ⟨#[73,111]⟩,.string ⟨#[70,105,108,101]⟩]) (.int .u8 4)).run Tryd.prog w9=.ok (.string ⟨#[73,111]⟩) w9:=fun _=>by kernel_rfl
 rw[htx] at Hlen ⊢;clear htx
 go_enter Tryd.func41,Tryd.ntmps41
 go_wp2_with fail;rw[HW.out];go_wp2_with fail
 go_region_held3 (fun w'=>w'.cell? ⟨w.heap.size,0,none⟩=some (.int .u8 4))
  (first | go_keep | exact z9)
  ((first
    | (go_at_call 74; refine(wrS ⟨#[73,111]⟩ (w:=W.drew) Hw1.out Hlen.out hB1).mono ?_; rintro e wy ⟨rfl,hq⟩; have z9:=(Hz.out.others (w:=W.drew) hq.2.2 hne (by decide)).cell 0)))
 all_goals
  go_wp2_with fail
  go_end0
  exact⟨rfl,hq.behind (w1:=W.drew) (Hbx.out.trans (Below.drew (Below.refl _ W))) hB⟩
theorem put_word5 {w0:World} {b:Nat} {nm:Value} {ws:List ByteArray} (n v c:Int) (L:List TyD) (A:Option Addr) (m cp:Nat):PutAt w0 b nm ws (.mk 5 n v c L) A m cp:=by
 intro w l hbel hw hlen;show Calls Tryd.prog 41 #[.pointer (some ⟨b,0,none⟩),.agg #[.int .u8 5,.int .i64 n,.int .i64 v,.int .u8 c,.slice A m cp]] w _;have hbx:=below_box (w:=w) (Obj.cells #[.int .u8 5,.int .i64 n,.int .i64 v,.int .u8 c,.slice A m cp] 63);have hz:=blk_new w #[.int .u8 5,.int .i64 n,.int .i64 v,.int .u8 c,.slice A m cp] 63;have hw1:=hw.alloc (Obj.cells #[.int .u8 5,.int .i64 n,.int .i64 v,.int .u8 c,.slice A m cp] 63)
 have hne:some w.heap.size≠some b:=by have:=hw.lt; simp; omega
 have hzl:=hz.lt;obtain⟨W,hW⟩:∃ W,w.alloc (Obj.cells #[.int .u8 5,.int .i64 n,.int .i64 v,.int .u8 c,.slice A m cp] 63)=W:=⟨_,rfl⟩;rw[hW] at hbx hz hw1 hzl;have hbel1:=hbel.trans (hbx.mono hbel.size);have HW:=qq hW;have Hw1:=qq hw1;have Hbx:=qq hbx;have Hz:=qq hz;have Hlen:=qq hlen;have hB:=hbel.size;have hB1:=hbel1.size;have Hb1:=qq hbel1;clear hW hw1 hbx hbel1 hbel hw hlen
 have htx:txB ws (.mk 5 n v c L)=[70,105,108,101]:=by rw[txB_eq]; rfl
 have z0:=Hz.out.cell 0
 have hix:∀ w9,(Instr.index 149 (.agg #[.string ⟨#[]⟩,.string ⟨#[]⟩,.string ⟨#[73,110,116]⟩,.string ⟨#[83,116,114]⟩,.string ⟨#[73,111]⟩,.string ⟨#[70,105,108,101]⟩]) (.int .u8 5)).run Tryd.prog w9=.ok (.string ⟨#[70,105,108,101]⟩) w9:=fun _=>by kernel_rfl
 rw[htx] at Hlen ⊢;clear htx
 go_enter Tryd.func41,Tryd.ntmps41
 go_wp2_with fail;rw[HW.out];go_wp2_with fail
 go_region_held3 (fun w'=>w'.cell? ⟨w.heap.size,0,none⟩=some (.int .u8 5))
  (first | go_keep | exact z9)
  ((first
    | (go_at_call 74; refine(wrS ⟨#[70,105,108,101]⟩ (w:=W.drew) Hw1.out Hlen.out hB1).mono ?_; rintro e wy ⟨rfl,hq⟩; have z9:=(Hz.out.others (w:=W.drew) hq.2.2 hne (by decide)).cell 0)))
 all_goals
  go_wp2_with fail
  go_end0
  exact⟨rfl,hq.behind (w1:=W.drew) (Hbx.out.trans (Below.drew (Below.refl _ W))) hB⟩
def FunR (B b:Nat) (nm:Value) (l T0 T:List UInt8) (W:World) (g:Nat) (i:Value) (wr:World):Prop:=
 (g=2∧i=.int .i64 0∧wr=W)∨(g=1∧i=.int .i64 1∧WrOut B b nm (Lib.byteCells (l++T0)) W wr)∨(g=0∧i=.int .i64 2∧WrOut B b nm (Lib.byteCells (l++T)) W wr)
theorem mark_num (v:Int):((((⟨#[32,45]⟩:ByteArray)++(⟨#[109]⟩++numT v))++⟨#[62,32]⟩).data.toList)=txMark v 0:=by
 unfold txMark numT;rw[if_pos rfl];simp
theorem mark_one (v:Int) {c:Int} (h:c≠0):((((⟨#[32,45]⟩:ByteArray)++mtext c)++⟨#[62,32]⟩).data.toList)=txMark v c:=by
 unfold txMark;rw[if_neg h];simp
theorem put_fun {w0:World} {b:Nat} {nm:Value} {ws:List ByteArray} (n v c:Int) (x0 x1:TyD) (A:Option Addr) (m cp:Nat) (ht:Tab w0) (hm:isB c v=true) (hl:TysV w0 w0.heap.size A m cp [x0,x1])
  (hp:∀ x∈[x0,x1],∀ A m cp,TysV w0 w0.heap.size A m cp x.l→PutAt w0 b nm ws x A m cp):PutAt w0 b nm ws (.mk 7 n v c [x0,x1]) A m cp:=by
 intro w l hbel hw hlen;show Calls Tryd.prog 41 #[.pointer (some ⟨b,0,none⟩),.agg #[.int .u8 7,.int .i64 n,.int .i64 v,.int .u8 c,.slice A m cp]] w _;have hbx:=below_box (w:=w) (Obj.cells #[.int .u8 7,.int .i64 n,.int .i64 v,.int .u8 c,.slice A m cp] 63);have hz:=blk_new w #[.int .u8 7,.int .i64 n,.int .i64 v,.int .u8 c,.slice A m cp] 63;have hw1:=hw.alloc (Obj.cells #[.int .u8 7,.int .i64 n,.int .i64 v,.int .u8 c,.slice A m cp] 63)
 have hne:some w.heap.size≠some b:=by have:=hw.lt; simp; omega
 have hzl:=hz.lt;obtain⟨W,hW⟩:∃ W,w.alloc (Obj.cells #[.int .u8 7,.int .i64 n,.int .i64 v,.int .u8 c,.slice A m cp] 63)=W:=⟨_,rfl⟩;rw[hW] at hbx hz hw1 hzl;have hbel1:=hbel.trans (hbx.mono hbel.size);have HW:=qq hW;have Hw1:=qq hw1;have Hbx:=qq hbx;have Hz:=qq hz;have Hlen:=qq hlen;have hB:=hbel.size;have hB1:=hbel1.size;have Hb1:=qq hbel1;clear hW hw1 hbx hbel1 hbel hw hlen;obtain rfl:m=2:=hl.len.symm
 have htx:txB ws (.mk 7 n v c [x0,x1])=txPar (x0.k==7) (txB ws x0)++(txMark v c++txPar false (txB ws x1)):=by
  rw[txB_eq];show txB.funL ws (txMark v c) 0 [x0,x1]=_;simp[txB.funL,txPar]
 obtain⟨T0,hT0⟩:∃ T,txPar (x0.k==7) (txB ws x0)=T:=⟨_,rfl⟩;obtain⟨T1,hT1⟩:∃ T,txPar false (txB ws x1)=T:=⟨_,rfl⟩;obtain⟨M,hM⟩:∃ T,txMark v c=T:=⟨_,rfl⟩;rw[htx,hT0,hT1,hM] at Hlen ⊢;have hlen:=Hlen.out;rw[List.length_append,List.length_append] at hlen;have HT0:=qq hT0;have HT1:=qq hT1;have HM:=qq hM;have HL:=qq hl;have Hp:=qq hp;have Hm:=qq hm;have Ht:=qq ht;have z0:=Hz.out.cell 0;have z4:=Hz.out.cell 4;clear hT0 hT1 hM htx hl hp hm ht
 go_enter Tryd.func41,Tryd.ntmps41
 go_wp2_with fail;rw[HW.out];go_wp2_with fail;clear z0 z4
 go_loopg [105] 2 (fun g i wr=>FunR w0.heap.size b nm l T0 (T0++(M++T1)) W g i wr)
 case atStart=>exact .inl ⟨rfl,rfl,rfl⟩
 case round=>
  rcases hrel with ⟨rfl,rfl,rfl⟩ | ⟨rfl,rfl,hq⟩ | ⟨rfl,rfl,hq⟩
  · obtain⟨bb,off,rfl,hbb,hc⟩:=HL.out.at_ (by omega)
    obtain⟨e0',e1',e2',e3',Ax,mx,cx,e4',hx⟩:=tyAt_iff.1 (hc 0 (by simp));have hlt:bb<w0.heap.size:=hbb;have hcW:∀ j,wr.cell? ⟨bb,j,none⟩=w0.cell? ⟨bb,j,none⟩:=fun j=>Hb1.out.cell (p:=⟨bb,j,none⟩) hlt;have e0:=(hcW _).trans e0';have e1:=(hcW _).trans e1';have e2:=(hcW _).trans e2';have e3:=(hcW _).trans e3';have e4:=(hcW _).trans e4';simp only[qe,Nat.zero_mul,Nat.add_zero] at e0 e1 e2 e3 e4 hx;have hbA:=below_box (w:=wr) (Obj.cells #[.int .u8 x0.k,.int .i64 x0.n,.int .i64 x0.v,.int .u8 x0.c,.slice Ax mx cx] 63)
    have hin:=in_any (Hp.out x0 (by simp) Ax mx cx hx) (x0.k==7) _ l (Hb1.out.trans (hbA.mono hB1)) (Hw1.out.below hbA) (by rw[HT0.out]; omega)
    rw[HT0.out] at hin;have Hin:=qq hin;have HbA:=qq hbA;clear e0' e1' e2' e3' e4' hcW hc hin hbA hx;obtain⟨kk,hkk⟩:∃ r,(x0.k==7)=r:=⟨_,rfl⟩;rw[hkk] at Hin;go_wp2_with fail;refine Hin.out.mono ?_;rintro e w2 ⟨rfl,h2⟩;go_wp2_with fail;go_roundg 1
    case measure=>omega
    case rel=>exact .inr (.inl ⟨rfl,by go_num,h2.behind HbA.out hB1⟩)
  · have hbw:=Hb1.out.trans hq.2.1
    have hzr:=Hz.out.others hq.2.2 hne (by decide);obtain⟨bb,off,rfl,hbb,hc⟩:=HL.out.at_ (by omega);obtain⟨e0',e1',e2',e3',Ax,mx,cx,e4',hx⟩:=tyAt_iff.1 (hc 1 (by simp));have hcW:∀ j,wr.cell? ⟨bb,j,none⟩=w0.cell? ⟨bb,j,none⟩:=fun j=>hbw.cell (p:=⟨bb,j,none⟩) hbb;have e0:=(hcW _).trans e0';have e1:=(hcW _).trans e1';have e2:=(hcW _).trans e2';have e3:=(hcW _).trans e3';have e4:=(hcW _).trans e4';simp only[qe,qf,Nat.one_mul] at e0 e1 e2 e3 e4 hx;have hbA:=below_box (w:=wr) (Obj.cells #[.int .u8 x1.k,.int .i64 x1.n,.int .i64 x1.v,.int .u8 x1.c,.slice Ax mx cx] 63);have hnb:=blk_new wr #[.int .u8 x1.k,.int .i64 x1.n,.int .i64 x1.v,.int .u8 x1.c,.slice Ax mx cx] 63
    have hne2:some wr.heap.size≠some b:=by have:=hq.is.lt; simp; omega
    have hz2:=hzr.below hbA hzr.lt;have q2:(wr.alloc (Obj.cells #[.int .u8 x1.k,.int .i64 x1.n,.int .i64 x1.v,.int .u8 x1.c,.slice Ax mx cx] 63)).cell? ⟨w.heap.size,2,none⟩=some (.int .i64 v):=hz2.cell 2
    have hv:0≤v∧v<1048576:=by
     have h:=Hm.out;unfold isB oneB at h;simp only[Bool.or_eq_true,Bool.and_eq_true,beq_iff_eq,decide_eq_true_eq] at h;omega
    have hi:=itoa_any v (by omega) (by omega) _ (Ht.out.below (hbw.trans (hbA.mono hbw.size)));have hnl:(numT v).size≤21:=numT_size _ (by omega) (by omega);have Hi:=qq hi;have HbA:=qq hbA;have Hbw:=qq hbw;have Hnb:=qq hnb;have Hne2:=qq hne2;have Hz2:=qq hz2;have Hpx:=qq (Hp.out x1 (by simp) Ax mx cx hx);have Hw2:=qq hq.is;have Hq:=qq hq;clear e0' e1' e2' e3' e4' hcW hc hbA hx hi hbw hzr hnb hne2 hz2 hq;go_wp2_with fail;refine Hi.out.mono ?_;rintro e w3 ⟨rfl,hb3⟩;have hz3:=Hz2.out.below hb3 Hz2.out.lt;have q3:w3.cell? ⟨w.heap.size,3,none⟩=some (.int .u8 c):=hz3.cell 3
    by_cases hc0:c=0
    · have hmk:=mark_num v
      subst hc0;clear hz3
      have hwS:=wrS ((((⟨#[32,45]⟩:ByteArray)++(⟨#[109]⟩++numT v))++⟨#[62,32]⟩)) ((IsWr.below (Hw2.out.below HbA.out) hb3)) (by rw[hmk,HM.out]; simp only[List.length_append]; omega) (Nat.le_trans (Nat.le_trans Hbw.out.size HbA.out.size) hb3.size)
      rw[hmk,HM.out] at hwS;have HwS:=qq hwS;have hn3:=Hnb.out.below hb3 Hnb.out.lt;have Hn3:=qq hn3;have Hb3:=qq hb3;clear hwS hn3 hb3;go_wp2_with fail;refine HwS.out.mono ?_;rintro e w4 ⟨rfl,h4⟩;have hn4:=Hn3.out.others h4.2.2 Hne2.out (by decide);have y0:=hn4.cell 0;have y1:=hn4.cell 1;have y2:=hn4.cell 2;have y3:=hn4.cell 3;have y4:=hn4.cell 4;have h5:=h4.behind (Hb3.out) (Nat.le_trans Hbw.out.size HbA.out.size)
      have hin:=in_any Hpx.out false w4 (l++T0++M) ((Hbw.out.trans (HbA.out.mono Hbw.out.size)).trans h5.2.1) h4.is (by rw[HT1.out]; simp only[List.length_append]; omega)
      rw[HT1.out] at hin;have Hin:=qq hin;have H5:=qq h5;clear hin h5 hn4 h4 HwS;go_wp2_with fail;refine Hin.out.mono ?_;rintro e w5 ⟨rfl,h6⟩;have H6:=qq h6;clear h6;go_wp2_with fail;go_roundg 0
      case measure=>omega
      case rel=>
       have h7:=(H5.out.trans H6.out).behind HbA.out Hbw.out.size;rw[List.append_assoc,List.append_assoc] at h7
       exact .inr (.inr ⟨rfl,by go_num,Hq.out.trans h7⟩)
    · have hmk:=mark_one v hc0
      have cne:(c==0)=false:=by simp[hc0]
      have hml:=mtext_size c;go_wp2_with fail;refine(text_any c w3).mono ?_;rintro e w6 ⟨rfl,hb6⟩;have hb7:=hb3.trans (hb6.mono hb3.size);clear hb3 hb6 hz3
      have hwS:=wrS ((((⟨#[32,45]⟩:ByteArray)++mtext c)++⟨#[62,32]⟩)) ((IsWr.below (Hw2.out.below HbA.out) hb7)) (by rw[hmk,HM.out]; simp only[List.length_append]; omega) (Nat.le_trans (Nat.le_trans Hbw.out.size HbA.out.size) hb7.size)
      rw[hmk,HM.out] at hwS;have HwS:=qq hwS;have hn3:=Hnb.out.below hb7 Hnb.out.lt;have Hn3:=qq hn3;have Hb3:=qq hb7;clear hwS hn3 hb7;go_wp2_with fail;refine HwS.out.mono ?_;rintro e w4 ⟨rfl,h4⟩;have hn4:=Hn3.out.others h4.2.2 Hne2.out (by decide);have y0:=hn4.cell 0;have y1:=hn4.cell 1;have y2:=hn4.cell 2;have y3:=hn4.cell 3;have y4:=hn4.cell 4;have h5:=h4.behind (Hb3.out) (Nat.le_trans Hbw.out.size HbA.out.size)
      have hin:=in_any Hpx.out false w4 (l++T0++M) ((Hbw.out.trans (HbA.out.mono Hbw.out.size)).trans h5.2.1) h4.is (by rw[HT1.out]; simp only[List.length_append]; omega)
      rw[HT1.out] at hin;have Hin:=qq hin;have H5:=qq h5;clear hin h5 hn4 h4 HwS;go_wp2_with fail;refine Hin.out.mono ?_;rintro e w5 ⟨rfl,h6⟩;have H6:=qq h6;clear h6;go_wp2_with fail;go_roundg 0
      case measure=>omega
      case rel=>
       have h7:=(H5.out.trans H6.out).behind HbA.out Hbw.out.size;rw[List.append_assoc,List.append_assoc] at h7
       exact .inr (.inr ⟨rfl,by go_num,Hq.out.trans h7⟩)
  · go_wp2_with fail
    go_end0
    exact⟨rfl,hq.behind Hbx.out hB⟩
theorem may_facts {t:TyD} (h:mayT t=true):1≤t.k∧t.k≤8∧0≤t.n∧t.n<mostI t.k∧(0≤kidsI t.k→(t.l.length:Int)=kidsI t.k)∧((t.v=0∧t.c=0)∨(t.k=7∧isB t.c t.v=true))∧∀ x∈t.l,mayT x=true:=by
 rw[mayT_eq,Bool.and_eq_true] at h;obtain⟨h1,h2⟩:=h;unfold isN at h1;simp only[Bool.and_eq_true,Bool.or_eq_true,Bool.not_eq_true',Bool.and_eq_false_iff,Bool.not_eq_false',decide_eq_true_eq,decide_eq_false_iff_not] at h1;obtain⟨⟨⟨⟨⟨⟨a1,a2⟩,a3⟩,a4⟩,a5⟩,a6⟩,a7⟩:=h1;refine⟨a1,a2,a3,a4,fun h=>?_,a7,fun x hx=>List.all_eq_true.1 h2 x hx⟩
 rcases a5 with a5 | a5
 · exact absurd h a5
 · exact a5
theorem may_mu {t:TyD} (h:mayT t=true):isB t.c t.v=true:=by
 rcases(may_facts h).2.2.2.2.2.1 with h | h
 · rw[h.1,h.2]; decide
 · exact h.2
theorem may_fun {t:TyD} (h:mayT t=true) (hk:t.k=7):∃ a b,t.l=[a,b]:=by
 have f:=may_facts h
 have hk0:kidsI t.k=2:=by rw[hk]; rfl
 have:=f.2.2.2.2.1 (by omega);rw[hk0] at this
 match hl:t.l,this with
 | [a,b],_=>exact⟨a,b,rfl⟩
 | [],h=>simp at h
 | [_],h=>simp at h
 | _ :: _ :: _ :: _,h=>simp at h; omega
theorem ty_ind {P:TyD→Prop} (h:∀ t,(∀ x∈t.l,P x)→P t) (t:TyD):P t:=by
 have:∀ (N:Nat) (t:TyD),nodes t≤N→P t:=by
  intro N
  induction N with
  | zero=>intro t hN; rw[nodes_eq t] at hN; omega
  | succ N ih=>exact fun t hN=>h t fun x hx=>ih x (by have:=nodes_mem hx; rw[nodes_eq t] at hN; omega)
 exact this _ t (Nat.le_refl _)
section
variable {fv fv':Int→Option TyD} {fm fm':Int→Int × Int}
end
end Go.Proofs.YtgpeijkjmkocgaaDoor
