import Derived.Test.YtdmakpmbknindaaGreatDoorM19
import Derived.Lib.Builder
import Derived.Lib.OthersKept
import Derived.Lib.AppendStr
import Derived.Lib.Strings
import Derived.Shelf.Strings.Builder1
import Derived.Shelf.Strings.BuilderK
import Derived.Shelf.Unicode.PredsPay
import Derived.Lib.ItoaLen
import Derived.Lib.ItoaMem
import Derived.Lib.CleanWalkFns
set_option linter.unusedVariables false
set_option linter.unusedSimpArgs false
set_option maxHeartbeats 2000000
set_option maxRecDepth 100000
namespace Go.Proofs.YtdmakpmbknindaaGreatDoor
open Go.RowKit
def putBad (t:TyD) (types:List TyD) (ms:List (Int × Int)):Bool:=(mayTE t != 0) || types.any (fun x=>mayTE x != 0) || ms.any (fun x=>!isB x.2 x.1)
def putE (t:TyD) (types:List TyD) (ms:List (Int × Int)):Int:=if putBad t types ms then 2 else if 300<grownW (types.map sizeW) t then 3 else 0
def putT (t:TyD) (types:List TyD) (ms:List (Int × Int)):TyD:=if putE t types ms=0 then turnT (putV types) (putM ms) t else .mk 0 0 0 0 []
def WrAt (B b:Nat) (p nm:Value) (bs:List Value) (w:World):Prop:=
 B≤b∧∃ v,w.heap[b]?=some (.cells #[p,v,nm] 177 (0,0))∧w.ownsRow B 5 1 v bs.length bs∧v.ownBlock≠some b∧(bs=[]→v=.slice none 0 0)
def IsWr (B b:Nat) (nm:Value) (bs:List Value) (w:World):Prop:=
 WrAt B b (.pointer none) nm bs w∨WrAt B b (.pointer (some ⟨b,0,none⟩)) nm bs w
section
variable {B b:Nat} {p nm:Value} {bs:List Value} {w:World}
theorem WrAt.cell0 (h:WrAt B b p nm bs w):w.cell? ⟨b,0,none⟩=some p:=by
 obtain⟨_,v,hb,_⟩:=h;simp[World.cell?,hb]
theorem WrAt.cell2 (h:WrAt B b p nm bs w):w.cell? ⟨b,2,none⟩=some nm:=by
 obtain⟨_,v,hb,_⟩:=h;simp[World.cell?,hb]
theorem WrAt.shape (h:WrAt B b p nm bs w):w.shape? b=some (177,3):=by
 obtain⟨_,v,hb,_⟩:=h;simp[World.shape?,hb]
theorem WrAt.frozen0 (h:WrAt B b p nm bs w):w.frozen? ⟨b,0,none⟩=false:=by
 obtain⟨_,v,hb,_⟩:=h;simp[World.frozen?,hb]
theorem WrAt.lt (h:WrAt B b p nm bs w):b<w.heap.size:=by
 obtain⟨_,v,hb,_⟩:=h;exact(Array.getElem?_eq_some_iff.1 hb).1
theorem WrAt.drew (h:WrAt B b p nm bs w):WrAt B b p nm bs w.drew:=h
theorem WrAt.alloc (h:WrAt B b p nm bs w) (o:Obj):WrAt B b p nm bs (w.alloc o):=by
 have hlt:=h.lt;obtain⟨hB,v,hb,hown,hne,h0⟩:=h;exact⟨hB,v,(Lib.alloc_old w o b hlt).trans hb,hown.alloc o,hne,h0⟩
theorem IsWr.alloc (h:IsWr B b nm bs w) (o:Obj):IsWr B b nm bs (w.alloc o):=h.imp (·.alloc o) (·.alloc o)
theorem IsWr.lt (h:IsWr B b nm bs w):b<w.heap.size:=h.elim (·.lt) (·.lt)
theorem IsWr.cell2 (h:IsWr B b nm bs w):w.cell? ⟨b,2,none⟩=some nm:=h.elim (·.cell2) (·.cell2)
theorem WrAt.below {w':World} (h:WrAt B b p nm bs w) (hb:Below w.heap.size w w'):WrAt B b p nm bs w':=by
 have hlt:=h.lt;obtain⟨hB,v,hk,hown,hne,h0⟩:=h
 exact⟨hB,v,(hb.block b hlt).trans hk,hown.kept (row:=none) (below_grown hb) (by
  rcases hown.2 with ⟨rfl,_⟩ | ⟨g,cap,cur,rfl,_⟩
  · exact Or.inl rfl
  · exact Or.inr (by simp[Value.ownBlock])),hne,h0⟩
theorem IsWr.below {w':World} (h:IsWr B b nm bs w) (hb:Below w.heap.size w w'):IsWr B b nm bs w':=h.imp (·.below hb) (·.below hb)
theorem WrAt.used (h:WrAt B b p nm bs w) (q:Value):WrAt B b q nm bs (w.setCell ⟨b,0,none⟩ q):=by
 obtain⟨hB,v,hb,hown,hne,h0⟩:=h;refine⟨hB,v,?_,?_,hne,h0⟩
 · simp[World.setCell,Array.getElem?_modify,hb]
 · exact hown.kept (row:=some b) ⟨rfl,rfl,rfl,by simp[World.setCell],fun k _ hk=>Below.heap_setCell _ _ _ _ (fun e=>hk (by simp[e]))⟩ (Or.inr hne)
theorem WrAt.put {v v':Value} {bs':List Value} (hB:B≤b) (hb:w.heap[b]?=some (.cells #[p,v,nm] 177 (0,0))) (hown:w.ownsRow B 5 1 v' bs'.length bs') (h0:bs'=[]→v'=.slice none 0 0):
 WrAt B b p nm bs' (w.setCell ⟨b,1,none⟩ v'):=by
 have hne:=Lib.ownBlock_ne hown hb (by decide);refine⟨hB,v',?_,?_,hne,h0⟩
 · simp[World.setCell,Array.getElem?_modify,hb]
 · exact hown.kept (row:=some b) ⟨rfl,rfl,rfl,by simp[World.setCell],fun k _ hk=>Below.heap_setCell _ _ _ _ (fun e=>hk (by simp[e]))⟩ (Or.inr hne)
end
theorem others_below {e:TypeId} {b:Option Nat} {a w w':World} (h:Lib.OthersKept e b a w) (hb:Below w.heap.size w w'):Lib.OthersKept e b a w':=by
 intro k o hk hne ho;have h1:=h k o hk hne ho;exact(hb.block k (Array.getElem?_eq_some_iff.1 h1).1).trans h1
theorem infoB:∃ j,Tryz.prog.info? 175=some j∧j.size=2:=Option.map_eq_some_iff.1 (by kernel_rfl)
theorem copyCheck_used (b:Nat) (w:World) (h0:w.cell? ⟨b,0,none⟩=some (.pointer (some ⟨b,0,none⟩))):
 Calls Tryz.prog 158 #[.pointer (some ⟨b,0,none⟩)] w fun e w'=>e=.returned (.tuple #[])∧w'=w:=by
 obtain⟨j,hj,_⟩:=infoB;have hq:=Lib.run_neq_ptr_same (P:=Tryz.prog) w (tp:=172) (te:=175) ⟨b,0,none⟩ (by kernel_rfl) hj
 go_enter Tryz.func158,Tryz.ntmps158
 go_wp2_with fail
 go_end0
 exact⟨rfl,rfl⟩
theorem copyCheck_fresh (b:Nat) (w:World) (h0:w.cell? ⟨b,0,none⟩=some (.pointer none)) (hsh:w.shape? b=some (177,3)) (hfz:w.frozen? ⟨b,0,none⟩=false):
 Calls Tryz.prog 158 #[.pointer (some ⟨b,0,none⟩)] w fun e w'=>e=.returned (.tuple #[])∧w'=w.setCell ⟨b,0,none⟩ (.pointer (some ⟨b,0,none⟩)):=by
 obtain⟨j,hj,hjs⟩:=infoB
 go_enter Tryz.func158,Tryz.ntmps158
 go_wp2_with fail
 rw[Lib.run_to_unsafe w ⟨b,0,none⟩ (t:=175) (by kernel_rfl) (by kernel_rfl) hj (by rw[hjs]; decide) hsh (Nat.zero_lt_succ 2)]
 simp only[Result.andThen];rw[Oper.upon_value];go_wp2_with fail;rw[run_callFunc_extern Tryz.func176 (by kernel_rfl) (by kernel_rfl) (by kernel_rfl) (e:=Extern.AbiNoEscape.same) (by kernel_rfl)];rw[Lib.run_noEscape];simp only[Result.andThen];rw[Oper.upon_value];go_wp2_with fail;rw[Lib.run_from_unsafe w ⟨b,0,none⟩ (u:=175) (by kernel_rfl) (by kernel_rfl) hj hsh (by kernel_rfl)];simp only[Result.andThen];rw[Oper.upon_value];go_wp2_with fail
 go_end0
 exact⟨rfl,rfl⟩
def WrOut (B b:Nat) (nm:Value) (bs:List Value) (w w':World):Prop:=
 WrAt B b (.pointer (some ⟨b,0,none⟩)) nm bs w'∧Below B w w'∧Lib.OthersKept 5 (some b) w w'
theorem copyCheck_any (B b:Nat) (nm:Value) (bs:List Value) (w:World) (h:IsWr B b nm bs w):
 Calls Tryz.prog 158 #[.pointer (some ⟨b,0,none⟩)] w fun e w'=>e=.returned (.tuple #[])∧WrOut B b nm bs w w':=by
 rcases h with h | h
 · refine(copyCheck_fresh b w h.cell0 h.shape h.frozen0).mono ?_
   rintro e w' ⟨rfl,rfl⟩;exact⟨rfl,h.used _,(Below.refl B w).setCell (p:=⟨b,0,none⟩) h.1 _,(Lib.OthersKept.refl _ _ w).setCell ⟨b,0,none⟩ rfl _⟩
 · refine(copyCheck_used b w h.cell0).mono ?_
   rintro e w' ⟨rfl,rfl⟩;exact⟨rfl,h,Below.refl B _,Lib.OthersKept.refl _ _ _⟩
theorem infoU:∃ i,Tryz.prog.info? 5=some i∧i.zero=some (.int .u8 0)∧i.size=1∧i.bytes=1:=by
 obtain⟨i,hi,e⟩:=Option.map_eq_some_iff.1 (show(Tryz.prog.info? 5).map (fun i=>(i.zero,i.size,i.bytes))=some (some (.int .u8 0),1,1) from by kernel_rfl)
 simp only[Prod.mk.injEq] at e;exact⟨i,hi,e.1,e.2.1,e.2.2⟩
theorem owns_kind {w:World} {B:Nat} {e:TypeId} {v:Value} {n:Nat} {xs:List Value} (h:w.ownsRow B e 1 v n xs):∀ g,v.ownBlock=some g→∃ c fz,w.heap[g]?=some (.cells c e fz):=Lib.ownsRowF_kind (World.ownsRowF_of h)
theorem writeByte_any (B b:Nat) (nm:Value) (bs:List Value) (c:Int) (w:World) (h:IsWr B b nm bs w) (hlen:bs.length+1≤140737488355328) (hBw:B≤w.heap.size):
 Calls Tryz.prog 151 #[.pointer (some ⟨b,0,none⟩),.int .u8 c] w fun e w'=>e=.returned .nilIface∧WrOut B b nm (bs++[.int .u8 c]) w w':=by
 obtain⟨i0,hi,hz0,hz1,hz2⟩:=infoU
 go_enter Tryz.func151,Tryz.ntmps151
 go_wp2_with (first | (go_at_call 158; refine(copyCheck_any B b nm bs _ h).mono ?_))
 rintro e w1 ⟨rfl,h1,hb1,hk1⟩;obtain⟨hB,v,hbk,hown,hne,hv0⟩:=h1
 have c0:w1.cell? ⟨b,0,none⟩=some (.pointer (some ⟨b,0,none⟩)):=by rw[Lib.cell_of_heap hbk]; rfl
 have c1:w1.cell? ⟨b,1,none⟩=some v:=by rw[Lib.cell_of_heap hbk]; rfl
 go_wp2_with (first | (at_builtin; refine wpList_append_own _ rfl _ _ 173 rfl B 5 i0 (.int .u8 0) 1 1 (by kernel_rfl) hi hz0 hz1 hz2 rfl (by decide) _ _ _ rfl (hown.alloc _) ⟨w1.heap.size,0,none⟩ 1 1 [.int .u8 c] rfl rfl ?c1 ?c2 ?c3 ?c4 ?c5 ?_))
 case c1=>
  intro j u hj
  match j,hj with
  | 0,hj=>simp at hj; subst hj; simp[Addr.add]
 case c2=>intro u hu; simp at hu; subst hu; rfl
 case c3=>unfold maxLen; omega
 case c4=>omega
 case c5=>have:=hb1.size; simp; omega
 intro v' w2 hown' hgrow hnil;have hlt:b<w1.heap.size:=(Array.getElem?_eq_some_iff.1 hbk).1
 have hb2:w2.heap[b]?=some (.cells #[.pointer (some ⟨b,0,none⟩),v,nm] 177 (0,0)):=by
  rw[hgrow.block b (by simp; omega) (fun e=>hne e.symm),Lib.alloc_old w1 _ b hlt]
  exact hbk
 have d0:w2.cell? ⟨b,0,none⟩=some (.pointer (some ⟨b,0,none⟩)):=by rw[Lib.cell_of_heap hb2]; rfl
 have d1:w2.cell? ⟨b,1,none⟩=some v:=by rw[Lib.cell_of_heap hb2]; rfl
 have f1:w2.frozen? ⟨b,1,none⟩=false:=Lib.frozen_of_heap hb2 1
 obtain⟨g,cap,rfl⟩:∃ g cap,v'=.slice (some ⟨g,0,none⟩) (bs.length+1) cap:=by
  rcases hown'.2 with ⟨_,h0⟩ | ⟨g,cap,cur,hv,_⟩
  · omega
  · exact⟨g,cap,hv⟩
 go_wp2_with fail;go_ret;refine⟨rfl,?_,?_,((hk1.alloc _).grown hgrow (owns_kind (hown.alloc _))).setCell ⟨b,1,none⟩ rfl _⟩
 · exact WrAt.put hB hb2 (bs':=bs++[.int .u8 c]) (by simpa using hown') (fun h=>absurd h (by simp))
 · exact((hb1.alloc (by have:=hb1.size; omega) _).grown hgrow (by have:=hb1.size; simp; omega) (fun k hk=>(hown.lt k hk).1)).setCell (p:=⟨b,1,none⟩) hB _
theorem strC_nil {s:ByteArray} (h:Lib.strCells s=[]):s=ByteArray.empty:=by
 have h1:s.size=0:=by rw[← Lib.strCells_length,h]; rfl
 exact ByteArray.ext (Array.eq_empty_of_size_eq_zero h1)
theorem writeString_any (B b:Nat) (nm:Value) (bs:List Value) (s:ByteArray) (w:World) (h:IsWr B b nm bs w) (hlen:bs.length+s.size≤140737488355328) (hBw:B≤w.heap.size):
 Calls Tryz.prog 140 #[.pointer (some ⟨b,0,none⟩),.string s] w fun e w'=>e=.returned (.tuple #[.int .i64 s.size,.nilIface])∧WrOut B b nm (bs++Lib.strCells s) w w':=by
 obtain⟨i0,hi,hz0,hz1,hz2⟩:=infoU
 go_enter Tryz.func140,Tryz.ntmps140
 go_wp2_with (first | (go_at_call 158; refine(copyCheck_any B b nm bs _ h).mono ?_))
 rintro e w1 ⟨rfl,h1,hb1,hk1⟩;obtain⟨hB,v,hbk,hown,hne,hv0⟩:=h1
 have c0:w1.cell? ⟨b,0,none⟩=some (.pointer (some ⟨b,0,none⟩)):=by rw[Lib.cell_of_heap hbk]; rfl
 have c1:w1.cell? ⟨b,1,none⟩=some v:=by rw[Lib.cell_of_heap hbk]; rfl
 go_wp2_with (first | (at_builtin; refine Lib.wpList_append_own_string _ rfl _ _ 173 9 rfl B 5 i0 (by kernel_rfl) (by kernel_rfl) hi hz0 hz1 hz2 _ _ _ rfl hown s rfl ?c3 ?c4 ?c5 ?_))
 case c3=>unfold maxLen; omega
 case c4=>omega
 case c5=>have:=hb1.size; omega
 intro v' w2 hown' hgrow hnil;have hlt:b<w1.heap.size:=(Array.getElem?_eq_some_iff.1 hbk).1
 have hb2:w2.heap[b]?=some (.cells #[.pointer (some ⟨b,0,none⟩),v,nm] 177 (0,0)):=by
  rw[hgrow.block b hlt (fun e=>hne e.symm)];exact hbk
 have d0:w2.cell? ⟨b,0,none⟩=some (.pointer (some ⟨b,0,none⟩)):=by rw[Lib.cell_of_heap hb2]; rfl
 have d1:w2.cell? ⟨b,1,none⟩=some v:=by rw[Lib.cell_of_heap hb2]; rfl
 have f1:w2.frozen? ⟨b,1,none⟩=false:=Lib.frozen_of_heap hb2 1;have hz9:bs++Lib.strCells s=[]→v'=.slice none 0 0:=fun h=>hnil.2 ⟨hv0 (List.append_eq_nil_iff.1 h).1,(strC_nil (List.append_eq_nil_iff.1 h).2)⟩;clear hnil
 obtain⟨ao,n',cap,rfl⟩:∃ ao n' cap,v'=.slice ao n' cap:=by
  rcases hown'.2 with ⟨hv,_⟩ | ⟨g,cap,cur,hv,_⟩
  · exact⟨_,_,_,hv⟩
  · exact⟨_,_,_,hv⟩
 go_wp2_with fail
 go_ret2
 refine⟨rfl,?_,?_,(hk1.grown hgrow (owns_kind hown)).setCell ⟨b,1,none⟩ rfl _⟩
 · exact WrAt.put hB hb2 (bs':=bs++Lib.strCells s) (by simpa[Lib.strCells_length] using hown') hz9
 · exact(hb1.grown hgrow (by have:=hb1.size; omega) (fun k hk=>(hown.lt k hk).1)).setCell (p:=⟨b,1,none⟩) hB _
/-- String of a writer that holds something -/
theorem string_some (B b:Nat) (p nm:Value) (l:List UInt8) (w:World) (hAt:WrAt B b p nm (Lib.byteCells l) w) (h0:l≠[]):
 Calls Tryz.prog 133 #[.pointer (some ⟨b,0,none⟩)] w fun e w'=>e=.returned (.string ⟨l.toArray⟩)∧Below B w w':=by
 obtain⟨hB,v,hbk,hown,hne,_⟩:=hAt
 have hl0:l.length≠0:=by simpa using h0
 rw[Lib.byteCells_length] at hown
 obtain⟨g,cap,cur,rfl,hbg,hg,hnc,hcm,hcs,htake⟩:∃ g cap cur,v=.slice (some ⟨g,0,none⟩) l.length cap∧B≤g∧w.heap[g]?=some (.cells cur 5 (0,0))∧l.length≤cap∧cap≤maxLen∧cur.size=cap * 1∧cur.toList.take (l.length * 1)=Lib.byteCells l:=by
  rcases hown.2 with ⟨_,hz⟩ | ⟨g,cap,cur,hv,r⟩
  · exact absurd hz hl0
  · exact⟨g,cap,cur,hv,r⟩
 have c1:w.drew.cell? ⟨b,1,none⟩=some (.slice (some ⟨g,0,none⟩) l.length cap):=by
  have:w.drew.heap[b]?=some (.cells #[p,.slice (some ⟨g,0,none⟩) l.length cap,nm] 177 (0,0)):=hbk
  rw[Lib.cell_of_heap this]; rfl
 have hSD:(Builtin.unsafeSliceData_ #[173] 205 #[.slice (some ⟨g,0,none⟩) l.length cap]).run Tryz.prog w.drew=.ok (.pointer (some ⟨g,0,none⟩)) w.drew:=
  Lib.run_unsafeSliceData_row _ _ _ _ _ _ (by omega)
 have hUS:(Builtin.unsafeString_ #[205,3] 9 #[.pointer (some ⟨g,0,none⟩),.int .i64 l.length]).run Tryz.prog w.drew=.ok (.string ⟨l.toArray⟩) (w.drew.freeze ⟨g,0,none⟩ l.length):=by
  refine Lib.run_unsafeString_row w.drew 205 3 9 5 (by kernel_rfl) (by kernel_rfl) g cur.size (by have hg':w.drew.heap[g]?=some (.cells cur 5 (0,0)):=hg; simp[World.shape?,hg']) l h0 (by omega) (by unfold maxLen at hcm; omega) ?_
  intro j x hx;have:=hown.cells (g:=g) rfl j (.int .u8 x.toNat) (by simp[Lib.byteCells,hx]);exact this
 have hbf:=Lib.below_freeze (Below.drew (Below.refl B w)) (p:=⟨g,0,none⟩) hbg l.length;have Hb:=qq hbf;clear hbf htake hcs hcm hnc hown hne hg hbk
 go_enter Tryz.func133,Tryz.ntmps133
 go_wp2_with fail
 go_region
 all_goals (go_wp2_with fail; go_ret; exact⟨rfl,Hb.out⟩)
theorem string_none (B b:Nat) (p nm:Value) (w:World) (hAt:WrAt B b p nm [] w):
 Calls Tryz.prog 133 #[.pointer (some ⟨b,0,none⟩)] w fun e w'=>e=.returned (.string ⟨#[]⟩)∧Below B w w':=by
 obtain⟨hB,v,hbk,hown,hne,h0⟩:=hAt;obtain rfl:=h0 rfl
 have c1:w.drew.cell? ⟨b,1,none⟩=some (.slice none 0 0):=by
  have:w.drew.heap[b]?=some (.cells #[p,.slice none 0 0,nm] 177 (0,0)):=hbk
  rw[Lib.cell_of_heap this]; rfl
 have hSD:(Builtin.unsafeSliceData_ #[173] 205 #[.slice none 0 0]).run Tryz.prog w.drew=.ok (.pointer none) w.drew:=rfl;have hUS:(Builtin.unsafeString_ #[205,3] 9 #[.pointer none,.int .i64 0]).run Tryz.prog w.drew=.ok (.string .empty) w.drew:=Lib.run_unsafeString_none w.drew _ _ _ none;clear hown hne hbk h0
 go_enter Tryz.func133,Tryz.ntmps133
 go_wp2_with fail
 go_region
 all_goals (go_wp2_with fail; go_ret; exact⟨rfl,Below.drew (Below.refl B w)⟩)
theorem string_any (B b:Nat) (p nm:Value) (l:List UInt8) (w:World) (hAt:WrAt B b p nm (Lib.byteCells l) w):
 Calls Tryz.prog 133 #[.pointer (some ⟨b,0,none⟩)] w fun e w'=>e=.returned (.string ⟨l.toArray⟩)∧Below B w w':=by
 by_cases h:l=[]
 · subst h
   exact string_none B b p nm w hAt
 · exact string_some B b p nm l w hAt h
def Tab (w:World):Prop:=Lib.TabIs Tryz.prog w "internal/strconv.uint64pow10" .u64 Lib.pow10Tab
theorem gTab:∃ g,Tryz.prog.globalNamed "internal/strconv.uint64pow10"=some g:=Option.isSome_iff_exists.1 (by kernel_rfl)
theorem Tab.below {w w':World} (h:Tab w) (hb:Below w.heap.size w w'):Tab w':=by
 obtain⟨g,hg⟩:=gTab;exact TabIs_below hg h hb
def numT (n:Int):ByteArray:=⟨(Lib.itoa n).toArray⟩
theorem below_grow {w:World} (k:Nat) (os:Array Obj):Below w.heap.size w (Go.Sort.grow (w.drewN k) os):=
 ⟨rfl,rfl,rfl,by simp[Go.Sort.grow,World.drewN],fun j hj=>by simp[Go.Sort.grow,World.drewN,Array.getElem?_append,hj]⟩
theorem itoa_any (n:Int) (h0 : -9223372036854775808≤n) (h1:n≤9223372036854775807) (w:World) (ht:Tab w):
 Calls Tryz.prog 137 #[.int .i64 n] w fun e w'=>e=.returned (.string (numT n))∧Below w.heap.size w w':=
 (Tryz.strconv_Itoa n h0 h1 w ht).mono fun e w' ⟨he,k,os,hw⟩=>⟨he,by rw[hw]; exact below_grow k os⟩
theorem numT_size (v:Int) (h0 : -9223372036854775808≤v) (h1:v≤9223372036854775807):(numT v).size≤21:=by
 have:=Lib.itoa_length_le v h0 h1;unfold numT
 simpa[ByteArray.size] using this
theorem mtext_size (m:Int):(mtext m).size≤1:=by
 unfold mtext tOne tAff tMany
 split
 · decide
 · split <;> decide
theorem mayT_range {t:TyD} (h:mayT t=true):0≤t.n∧t.n<1048576:=by
 rw[mayT_eq,Bool.and_eq_true] at h;have h1:=h.1;unfold isN at h1;simp only[Bool.and_eq_true,decide_eq_true_eq] at h1;refine⟨h1.1.1.1.1.2,?_⟩;have h2:=h1.1.1.1.2;unfold mostI at h2
 split at h2
 · omega
 · split at h2 <;> omega
def txPar (b:Bool) (s:List UInt8):List UInt8:=if b then 40 :: (s++[41]) else s
def txMark (v c:Int):List UInt8:=[32,45]++(if c=0 then 109 :: Lib.itoa v else (mtext c).data.toList)++[62,32]
def txHead (ws:List ByteArray) (k n:Int):List UInt8:=if k=6 then [65,114,114] else if n<ws.length then (ws.getD n.toNat ByteArray.empty).data.toList else 35 :: Lib.itoa n
def txIn (t:TyD):Bool:=t.k==7 || (decide (t.k≥6)&&decide (0<t.l.length))
def txB (ws:List ByteArray):TyD→List UInt8
 | .mk k n v c l=>if k=1 then 97 :: Lib.itoa n else if k=2 then [73,110,116] else if k=3 then [83,116,114] else if k=4 then [73,111] else if k=5 then [70,105,108,101] else if k=7 then funL ws (txMark v c) 0 l else txHead ws k n++dataL ws l
where
 funL (ws:List ByteArray) (mk:List UInt8):Nat→List TyD→List UInt8
  | _,[]=>[]
  | i,t :: r=>((if i=1 then mk else [])++txPar (decide (i=0)&&t.k==7) (txB ws t))++funL ws mk (i+1) r
 dataL (ws:List ByteArray):List TyD→List UInt8
  | []=>[]
  | t :: r=>(32 :: txPar (txIn t) (txB ws t))++dataL ws r
theorem txB_eq (ws:List ByteArray) (t:TyD):txB ws t=if t.k=1 then 97 :: Lib.itoa t.n else if t.k=2 then [73,110,116] else if t.k=3 then [83,116,114] else if t.k=4 then [73,111] else if t.k=5 then [70,105,108,101] else if t.k=7 then txB.funL ws (txMark t.v t.c) 0 t.l else txHead ws t.k t.n++txB.dataL ws t.l:=by
 cases t; rw[txB]; rfl
theorem dataL_append (ws:List ByteArray):∀ (a b:List TyD),txB.dataL ws (a++b)=txB.dataL ws a++txB.dataL ws b
 | [],b=>by simp[txB.dataL]
 | t :: r,b=>by
   rw[List.cons_append,txB.dataL,dataL_append ws r b,txB.dataL,List.append_assoc]
theorem dataL_step (ws:List ByteArray) (l:List TyD) (k:Nat) (h:k<l.length):
 txB.dataL ws (l.take (k+1))=txB.dataL ws (l.take k)++(32 :: txPar (txIn l[k]) (txB ws l[k])):=by
 rw[List.take_succ_eq_append_getElem h,dataL_append,txB.dataL,txB.dataL,List.append_nil]
theorem dataL_le (ws:List ByteArray) (l:List TyD) (k:Nat):(txB.dataL ws (l.take k)).length≤(txB.dataL ws l).length:=by
 have h:=dataL_append ws (l.take k) (l.drop k);rw[List.take_append_drop] at h;rw[h,List.length_append];omega
def NmV (w:World) (B:Nat) (A:Option Addr) (n c:Nat) (l:List ByteArray):Prop:=Rd w B 1 A n (l.map Value.string)∧n≤c∧c≤maxLen
section
variable {w w':World} {B n c:Nat} {A:Option Addr} {l:List ByteArray}
theorem NmV.len (h:NmV w B A n c l):l.length=n:=by simpa using h.1.1
theorem NmV.below (h:NmV w B A n c l) (hb:Below B w w'):NmV w' B A n c l:=⟨h.1.below hb,h.2⟩
theorem NmV.more {B':Nat} (h:NmV w B A n c l) (hb:B≤B'):NmV w B' A n c l:=⟨h.1.more hb,h.2⟩
theorem NmV.nil:NmV w B none 0 0 []:=⟨Rd.nil,Nat.le_refl _,Nat.zero_le _⟩
theorem NmV.cells (h:NmV w B A n c l) (hn:0<n):∃ b off,A=some ⟨b,off,none⟩∧∀ j,j<l.length→w.cell? ⟨b,off+j,none⟩=some (.string (l.getD j ByteArray.empty)):=by
 obtain⟨b,off,e,hb,hc⟩:=h.1.2 hn;exact⟨b,off,e,fun j hj=>hc j _ (by simp[List.getD,hj])⟩
theorem NmV.new (w:World) (l:List ByteArray) (t:TypeId) (hl:l.length≤maxLen):NmV (w.alloc (.cells (l.map Value.string).toArray t)) (w.heap.size+1) (some ⟨w.heap.size,0,none⟩) l.length l.length l:=by
 have h:=Rd.new w (l.map Value.string) t;rw[List.length_map] at h;exact⟨h,Nat.le_refl _,hl⟩
end
theorem Blk.others {w w':World} {g:Nat} {t e:TypeId} {cs:Array Value} {b:Option Nat} (h:Blk w g t cs) (ho:Lib.OthersKept e b w w') (hb:some g≠b) (ht:t≠e):Blk w' g t cs:=
 ho g _ h hb (fun c fz e=>by injection e with _ e2 _; exact ht e2)
def PutAt (w0:World) (b:Nat) (nm:Value) (ws:List ByteArray) (t:TyD) (A:Option Addr) (m cp:Nat):Prop:=
 ∀ (w:World) (l:List UInt8),Below w0.heap.size w0 w→IsWr w0.heap.size b nm (Lib.byteCells l) w→l.length+(txB ws t).length≤140737488355328 →
  Calls Tryz.prog 132 #[.pointer (some ⟨b,0,none⟩),.agg #[.int .u8 t.k,.int .i64 t.n,.int .i64 t.v,.int .u8 t.c,.slice A m cp]] w fun e w'=>e=.returned (.tuple #[])∧WrOut w0.heap.size b nm (Lib.byteCells (l++txB ws t)) w w'
theorem wrB {B b:Nat} {nm:Value} {l:List UInt8} (c:UInt8) {w:World} (h:IsWr B b nm (Lib.byteCells l) w) (hlen:l.length+1≤140737488355328) (hBw:B≤w.heap.size):
 Calls Tryz.prog 151 #[.pointer (some ⟨b,0,none⟩),.int .u8 c.toNat] w fun e w'=>e=.returned .nilIface∧WrOut B b nm (Lib.byteCells (l++[c])) w w':=by
 have:=writeByte_any B b nm (Lib.byteCells l) c.toNat w h (by rw[Lib.byteCells_length]; exact hlen) hBw
 rw[Lib.byteCells_append];exact this
theorem wrS {B b:Nat} {nm:Value} {l:List UInt8} (s:ByteArray) {w:World} (h:IsWr B b nm (Lib.byteCells l) w) (hlen:l.length+s.data.toList.length≤140737488355328) (hBw:B≤w.heap.size):
 Calls Tryz.prog 140 #[.pointer (some ⟨b,0,none⟩),.string s] w fun e w'=>e=.returned (.tuple #[.int .i64 s.size,.nilIface])∧WrOut B b nm (Lib.byteCells (l++s.data.toList)) w w':=by
 have:=writeString_any B b nm (Lib.byteCells l) s w h (by rw[Lib.byteCells_length]; exact hlen) hBw
 rw[Lib.byteCells_append];exact this
theorem WrOut.is {B b:Nat} {nm:Value} {bs:List Value} {w w':World} (h:WrOut B b nm bs w w'):IsWr B b nm bs w':=.inr h.1
theorem WrOut.trans {B b:Nat} {nm:Value} {bs bs':List Value} {w w1 w2:World} (h:WrOut B b nm bs w w1) (h2:WrOut B b nm bs' w1 w2):WrOut B b nm bs' w w2:=
 ⟨h2.1,h.2.1.trans h2.2.1,h.2.2.trans h2.2.2⟩
theorem WrOut.behind {B b:Nat} {nm:Value} {bs:List Value} {w w1 w2:World} (h:Below w.heap.size w w1) (hB:B≤w.heap.size) (h2:WrOut B b nm bs w1 w2):WrOut B b nm bs w w2:=
 ⟨h2.1,(h.mono hB).trans h2.2.1,(others_below (Lib.OthersKept.refl _ _ w) h).trans h2.2.2⟩
theorem in_any {w0:World} {b:Nat} {nm:Value} {ws:List ByteArray} {t:TyD} {A:Option Addr} {m cp:Nat} (hp:PutAt w0 b nm ws t A m cp) (must:Bool) (w:World) (l:List UInt8) (hbel:Below w0.heap.size w0 w) (hw:IsWr w0.heap.size b nm (Lib.byteCells l) w) (hlen:l.length+(txPar must (txB ws t)).length≤140737488355328):
 Calls Tryz.prog 150 #[.pointer (some ⟨b,0,none⟩),.agg #[.int .u8 t.k,.int .i64 t.n,.int .i64 t.v,.int .u8 t.c,.slice A m cp],.bool must] w fun e w'=>e=.returned (.tuple #[])∧WrOut w0.heap.size b nm (Lib.byteCells (l++txPar must (txB ws t))) w w':=by
 have hbx:=below_box (w:=w) (Obj.cells #[.int .u8 t.k,.int .i64 t.n,.int .i64 t.v,.int .u8 t.c,.slice A m cp] 27);have hz:=blk_new w #[.int .u8 t.k,.int .i64 t.n,.int .i64 t.v,.int .u8 t.c,.slice A m cp] 27;have hw1:=hw.alloc (Obj.cells #[.int .u8 t.k,.int .i64 t.n,.int .i64 t.v,.int .u8 t.c,.slice A m cp] 27)
 have hne:some w.heap.size≠some b:=by have:=hw.lt; simp; omega
 obtain⟨W,hW⟩:∃ W,w.alloc (Obj.cells #[.int .u8 t.k,.int .i64 t.n,.int .i64 t.v,.int .u8 t.c,.slice A m cp] 27)=W:=⟨_,rfl⟩;rw[hW] at hbx hz hw1;have hbel1:=hbel.trans (hbx.mono hbel.size);have HW:=qq hW;have Hw1:=qq hw1;have Hbx:=qq hbx;have Hb1:=qq hbel1;have Hp:=qq hp;have hB:=hbel.size;clear hW hw1 hbx hbel1 hbel hw hp
 cases must
 · have z0:=hz.cell 0
   have z1:=hz.cell 1;have z2:=hz.cell 2;have z3:=hz.cell 3;have z4:=hz.cell 4;have Hlen:=qq hlen;clear hz hlen
   go_enter Tryz.func150,Tryz.ntmps150
   go_wp2_with fail;rw[HW.out];go_wp2_with fail;refine(Hp.out W l Hb1.out Hw1.out Hlen.out).mono ?_;rintro e w1 ⟨rfl,h1⟩;go_wp2_with fail;exact bodyPost_ret (v:=.tuple #[]) (results_none rfl _ _ _) rfl ⟨rfl,h1.behind Hbx.out hB⟩
 · have hl2:l.length+(txB ws t).length+2≤140737488355328:=by
    have h:=hlen;simp only[txPar,if_true,List.length_cons,List.length_append,List.length_nil] at h;omega
   clear hlen;have h40:=wrB (40:UInt8) Hw1.out (by omega) Hb1.out.size;have H40:=qq h40;have Hl2:=qq hl2;have Hz:=qq hz;clear h40 hl2 hz
   go_enter Tryz.func150,Tryz.ntmps150
   go_wp2_with fail;rw[HW.out];go_wp2_with fail;refine H40.out.mono ?_;rintro e w1 ⟨rfl,h1⟩;have hz1:=Hz.out.others h1.2.2 hne (by decide);have z0:=hz1.cell 0;have z1:=hz1.cell 1;have z2:=hz1.cell 2;have z3:=hz1.cell 3;have z4:=hz1.cell 4;have hbelA:=Hb1.out.trans h1.2.1
   have hq:=Hp.out w1 (l++[40]) hbelA h1.is (by have:=Hl2.out; rw[List.length_append]; simp only[List.length_cons,List.length_nil]; omega)
   have Hq:=qq hq;have H1:=qq h1;have HbA:=qq hbelA;clear hq h1 hbelA hz1;go_wp2_with fail;refine Hq.out.mono ?_;rintro e w2 ⟨rfl,h2⟩
   have h41:=wrB (41:UInt8) h2.is (by have:=Hl2.out; rw[List.length_append,List.length_append]; simp only[List.length_cons,List.length_nil]; omega) (HbA.out.trans h2.2.1).size
   have H41:=qq h41;have H2:=qq h2;clear h41 h2;go_wp2_with fail;refine H41.out.mono ?_;rintro e w3 ⟨rfl,h3⟩;have H3:=qq h3;clear h3;go_wp2_with fail
   go_end0
   have h:=((H1.out.trans H2.out).trans H3.out).behind Hbx.out hB;refine⟨rfl,?_⟩
   have e:l++txPar true (txB ws t)=l++[40]++txB ws t++[41]:=by simp[txPar]
   rw[e];exact h
theorem put_var {w0:World} {b:Nat} {nm:Value} {ws:List ByteArray} (n v c:Int) (L:List TyD) (A:Option Addr) (m cp:Nat) (ht:Tab w0) (h0:0≤n) (h1:n<1048576):PutAt w0 b nm ws (.mk 1 n v c L) A m cp:=by
 intro w l hbel hw hlen;show Calls Tryz.prog 132 #[.pointer (some ⟨b,0,none⟩),.agg #[.int .u8 1,.int .i64 n,.int .i64 v,.int .u8 c,.slice A m cp]] w _;have hbx:=below_box (w:=w) (Obj.cells #[.int .u8 1,.int .i64 n,.int .i64 v,.int .u8 c,.slice A m cp] 27);have hz:=blk_new w #[.int .u8 1,.int .i64 n,.int .i64 v,.int .u8 c,.slice A m cp] 27;have hw1:=hw.alloc (Obj.cells #[.int .u8 1,.int .i64 n,.int .i64 v,.int .u8 c,.slice A m cp] 27)
 have hne:some w.heap.size≠some b:=by have:=hw.lt; simp; omega
 have hzl:=hz.lt;obtain⟨W,hW⟩:∃ W,w.alloc (Obj.cells #[.int .u8 1,.int .i64 n,.int .i64 v,.int .u8 c,.slice A m cp] 27)=W:=⟨_,rfl⟩;rw[hW] at hbx hz hw1 hzl;have hbel1:=hbel.trans (hbx.mono hbel.size);have HW:=qq hW;have Hw1:=qq hw1;have Hbx:=qq hbx;have Hz:=qq hz;have Hlen:=qq hlen;have hB:=hbel.size;have hB1:=hbel1.size;have Hb1:=qq hbel1;clear hW hw1 hbx hbel1 hbel hw hlen;have hnl:(numT n).size≤21:=numT_size _ (by omega) (by omega)
 have htx:txB ws (.mk 1 n v c L)=97 :: Lib.itoa n:=by rw[txB_eq]; rfl
 have hbs:((⟨#[97]⟩:ByteArray)++numT n).data.toList=97 :: Lib.itoa n:=by simp[numT]
 rw[htx] at Hlen ⊢;have ht1:=qq (ht.below Hb1.out);have Hbs:=qq hbs;have hcat:(9223372036854775807<1+(numT n).size)=False:=eq_false (by omega);clear hbs htx;have z0:=Hz.out.cell 0
 go_enter Tryz.func132,Tryz.ntmps132
 go_wp2_with fail;rw[HW.out];go_wp2_with fail;have z1:=Hz.out.cell 1
 go_region_held3 (fun w'=>w'.cell? ⟨w.heap.size,1,none⟩=some (.int .i64 n))
  (first | go_keep | exact(hbS.cell (p:=⟨w.heap.size,1,none⟩) hzl).trans z1 | exact z9)
  ((first
    | (go_at_call 137; refine(itoa_any n (by omega) (by omega) W.drew ht1.out).mono ?_; rintro e wx ⟨rfl,hbS0⟩; have hbS:=(Below.drew (Below.refl W.heap.size W)).trans hbS0; clear hbS0)
    | (go_at_call 140; refine(wrS _ (IsWr.below Hw1.out hbS) (by rw[Hbs.out]; exact Hlen.out) (Nat.le_trans hB1 hbS.size)).mono ?_; rintro e wy ⟨rfl,hq⟩; have z9:=((Hz.out.below hbS hzl).others hq.2.2 hne (by decide)).cell 1)))
 all_goals
  go_wp2_with fail;rw[Hbs.out] at hq
  go_end0
  exact⟨rfl,(hq.behind hbS hB1).behind Hbx.out hB⟩
theorem put_word2 {w0:World} {b:Nat} {nm:Value} {ws:List ByteArray} (n v c:Int) (L:List TyD) (A:Option Addr) (m cp:Nat):PutAt w0 b nm ws (.mk 2 n v c L) A m cp:=by
 intro w l hbel hw hlen;show Calls Tryz.prog 132 #[.pointer (some ⟨b,0,none⟩),.agg #[.int .u8 2,.int .i64 n,.int .i64 v,.int .u8 c,.slice A m cp]] w _;have hbx:=below_box (w:=w) (Obj.cells #[.int .u8 2,.int .i64 n,.int .i64 v,.int .u8 c,.slice A m cp] 27);have hz:=blk_new w #[.int .u8 2,.int .i64 n,.int .i64 v,.int .u8 c,.slice A m cp] 27;have hw1:=hw.alloc (Obj.cells #[.int .u8 2,.int .i64 n,.int .i64 v,.int .u8 c,.slice A m cp] 27)
 have hne:some w.heap.size≠some b:=by have:=hw.lt; simp; omega
 have hzl:=hz.lt;obtain⟨W,hW⟩:∃ W,w.alloc (Obj.cells #[.int .u8 2,.int .i64 n,.int .i64 v,.int .u8 c,.slice A m cp] 27)=W:=⟨_,rfl⟩;rw[hW] at hbx hz hw1 hzl;have hbel1:=hbel.trans (hbx.mono hbel.size);have HW:=qq hW;have Hw1:=qq hw1;have Hbx:=qq hbx;have Hz:=qq hz;have Hlen:=qq hlen;have hB:=hbel.size;have hB1:=hbel1.size;have Hb1:=qq hbel1;clear hW hw1 hbx hbel1 hbel hw hlen
 have htx:txB ws (.mk 2 n v c L)=[73,110,116]:=by rw[txB_eq]; rfl
 have z0:=Hz.out.cell 0
 have hix:∀ w9,(Instr.index 203 (.agg #[.string ⟨#[]⟩,.string ⟨#[]⟩,.string ⟨#[73,110,116]⟩,.string ⟨#[83,116,114]⟩,.string ⟨#[73,111]⟩,.string ⟨#[70,105,108,101]⟩]) (.int .u8 2)).run Tryz.prog w9=.ok (.string ⟨#[73,110,116]⟩) w9:=fun _=>by kernel_rfl
 rw[htx] at Hlen ⊢;clear htx
 go_enter Tryz.func132,Tryz.ntmps132
 go_wp2_with fail;rw[HW.out];go_wp2_with fail
 go_region_held3 (fun w'=>w'.cell? ⟨w.heap.size,0,none⟩=some (.int .u8 2))
  (first | go_keep | exact z9)
  ((first
    | (go_at_call 140; refine(wrS ⟨#[73,110,116]⟩ (w:=W.drew) Hw1.out Hlen.out hB1).mono ?_; rintro e wy ⟨rfl,hq⟩; have z9:=(Hz.out.others (w:=W.drew) hq.2.2 hne (by decide)).cell 0)))
 all_goals
  go_wp2_with fail
  go_end0
  exact⟨rfl,hq.behind (w1:=W.drew) (Hbx.out.trans (Below.drew (Below.refl _ W))) hB⟩
theorem put_word3 {w0:World} {b:Nat} {nm:Value} {ws:List ByteArray} (n v c:Int) (L:List TyD) (A:Option Addr) (m cp:Nat):PutAt w0 b nm ws (.mk 3 n v c L) A m cp:=by
 intro w l hbel hw hlen;show Calls Tryz.prog 132 #[.pointer (some ⟨b,0,none⟩),.agg #[.int .u8 3,.int .i64 n,.int .i64 v,.int .u8 c,.slice A m cp]] w _;have hbx:=below_box (w:=w) (Obj.cells #[.int .u8 3,.int .i64 n,.int .i64 v,.int .u8 c,.slice A m cp] 27);have hz:=blk_new w #[.int .u8 3,.int .i64 n,.int .i64 v,.int .u8 c,.slice A m cp] 27;have hw1:=hw.alloc (Obj.cells #[.int .u8 3,.int .i64 n,.int .i64 v,.int .u8 c,.slice A m cp] 27)
 have hne:some w.heap.size≠some b:=by have:=hw.lt; simp; omega
 have hzl:=hz.lt;obtain⟨W,hW⟩:∃ W,w.alloc (Obj.cells #[.int .u8 3,.int .i64 n,.int .i64 v,.int .u8 c,.slice A m cp] 27)=W:=⟨_,rfl⟩;rw[hW] at hbx hz hw1 hzl;have hbel1:=hbel.trans (hbx.mono hbel.size);have HW:=qq hW;have Hw1:=qq hw1;have Hbx:=qq hbx;have Hz:=qq hz;have Hlen:=qq hlen;have hB:=hbel.size;have hB1:=hbel1.size;have Hb1:=qq hbel1;clear hW hw1 hbx hbel1 hbel hw hlen
 have htx:txB ws (.mk 3 n v c L)=[83,116,114]:=by rw[txB_eq]; rfl
 have z0:=Hz.out.cell 0
 have hix:∀ w9,(Instr.index 203 (.agg #[.string ⟨#[]⟩,.string ⟨#[]⟩,.string ⟨#[73,110,116]⟩,.string ⟨#[83,116,114]⟩,.string ⟨#[73,111]⟩,.string ⟨#[70,105,108,101]⟩]) (.int .u8 3)).run Tryz.prog w9=.ok (.string ⟨#[83,116,114]⟩) w9:=fun _=>by kernel_rfl
 rw[htx] at Hlen ⊢;clear htx
 go_enter Tryz.func132,Tryz.ntmps132
 go_wp2_with fail;rw[HW.out];go_wp2_with fail
 go_region_held3 (fun w'=>w'.cell? ⟨w.heap.size,0,none⟩=some (.int .u8 3))
  (first | go_keep | exact z9)
  ((first
    | (go_at_call 140; refine(wrS ⟨#[83,116,114]⟩ (w:=W.drew) Hw1.out Hlen.out hB1).mono ?_; rintro e wy ⟨rfl,hq⟩; have z9:=(Hz.out.others (w:=W.drew) hq.2.2 hne (by decide)).cell 0)))
 all_goals
  go_wp2_with fail
  go_end0
  exact⟨rfl,hq.behind (w1:=W.drew) (Hbx.out.trans (Below.drew (Below.refl _ W))) hB⟩
theorem put_word4 {w0:World} {b:Nat} {nm:Value} {ws:List ByteArray} (n v c:Int) (L:List TyD) (A:Option Addr) (m cp:Nat):PutAt w0 b nm ws (.mk 4 n v c L) A m cp:=by
 intro w l hbel hw hlen;show Calls Tryz.prog 132 #[.pointer (some ⟨b,0,none⟩),.agg #[.int .u8 4,.int .i64 n,.int .i64 v,.int .u8 c,.slice A m cp]] w _;have hbx:=below_box (w:=w) (Obj.cells #[.int .u8 4,.int .i64 n,.int .i64 v,.int .u8 c,.slice A m cp] 27);have hz:=blk_new w #[.int .u8 4,.int .i64 n,.int .i64 v,.int .u8 c,.slice A m cp] 27;have hw1:=hw.alloc (Obj.cells #[.int .u8 4,.int .i64 n,.int .i64 v,.int .u8 c,.slice A m cp] 27)
 have hne:some w.heap.size≠some b:=by have:=hw.lt; simp; omega
 have hzl:=hz.lt;obtain⟨W,hW⟩:∃ W,w.alloc (Obj.cells #[.int .u8 4,.int .i64 n,.int .i64 v,.int .u8 c,.slice A m cp] 27)=W:=⟨_,rfl⟩;rw[hW] at hbx hz hw1 hzl;have hbel1:=hbel.trans (hbx.mono hbel.size);have HW:=qq hW;have Hw1:=qq hw1;have Hbx:=qq hbx;have Hz:=qq hz;have Hlen:=qq hlen;have hB:=hbel.size;have hB1:=hbel1.size;have Hb1:=qq hbel1;clear hW hw1 hbx hbel1 hbel hw hlen
 have htx:txB ws (.mk 4 n v c L)=[73,111]:=by rw[txB_eq]; rfl
 have z0:=Hz.out.cell 0
 have hix:∀ w9,(Instr.index 203 (.agg #[.string ⟨#[]⟩,.string ⟨#[]⟩,.string ⟨#[73,110,116]⟩,.string ⟨#[83,116,114]⟩,.string ⟨#[73,111]⟩,.string ⟨#[70,105,108,101]⟩]) (.int .u8 4)).run Tryz.prog w9=.ok (.string ⟨#[73,111]⟩) w9:=fun _=>by kernel_rfl
 rw[htx] at Hlen ⊢;clear htx
 go_enter Tryz.func132,Tryz.ntmps132
 go_wp2_with fail;rw[HW.out];go_wp2_with fail
 go_region_held3 (fun w'=>w'.cell? ⟨w.heap.size,0,none⟩=some (.int .u8 4))
  (first | go_keep | exact z9)
  ((first
    | (go_at_call 140; refine(wrS ⟨#[73,111]⟩ (w:=W.drew) Hw1.out Hlen.out hB1).mono ?_; rintro e wy ⟨rfl,hq⟩; have z9:=(Hz.out.others (w:=W.drew) hq.2.2 hne (by decide)).cell 0)))
 all_goals
  go_wp2_with fail
  go_end0
  exact⟨rfl,hq.behind (w1:=W.drew) (Hbx.out.trans (Below.drew (Below.refl _ W))) hB⟩
theorem put_word5 {w0:World} {b:Nat} {nm:Value} {ws:List ByteArray} (n v c:Int) (L:List TyD) (A:Option Addr) (m cp:Nat):PutAt w0 b nm ws (.mk 5 n v c L) A m cp:=by
 intro w l hbel hw hlen;show Calls Tryz.prog 132 #[.pointer (some ⟨b,0,none⟩),.agg #[.int .u8 5,.int .i64 n,.int .i64 v,.int .u8 c,.slice A m cp]] w _;have hbx:=below_box (w:=w) (Obj.cells #[.int .u8 5,.int .i64 n,.int .i64 v,.int .u8 c,.slice A m cp] 27);have hz:=blk_new w #[.int .u8 5,.int .i64 n,.int .i64 v,.int .u8 c,.slice A m cp] 27;have hw1:=hw.alloc (Obj.cells #[.int .u8 5,.int .i64 n,.int .i64 v,.int .u8 c,.slice A m cp] 27)
 have hne:some w.heap.size≠some b:=by have:=hw.lt; simp; omega
 have hzl:=hz.lt;obtain⟨W,hW⟩:∃ W,w.alloc (Obj.cells #[.int .u8 5,.int .i64 n,.int .i64 v,.int .u8 c,.slice A m cp] 27)=W:=⟨_,rfl⟩;rw[hW] at hbx hz hw1 hzl;have hbel1:=hbel.trans (hbx.mono hbel.size);have HW:=qq hW;have Hw1:=qq hw1;have Hbx:=qq hbx;have Hz:=qq hz;have Hlen:=qq hlen;have hB:=hbel.size;have hB1:=hbel1.size;have Hb1:=qq hbel1;clear hW hw1 hbx hbel1 hbel hw hlen
 have htx:txB ws (.mk 5 n v c L)=[70,105,108,101]:=by rw[txB_eq]; rfl
 have z0:=Hz.out.cell 0
 have hix:∀ w9,(Instr.index 203 (.agg #[.string ⟨#[]⟩,.string ⟨#[]⟩,.string ⟨#[73,110,116]⟩,.string ⟨#[83,116,114]⟩,.string ⟨#[73,111]⟩,.string ⟨#[70,105,108,101]⟩]) (.int .u8 5)).run Tryz.prog w9=.ok (.string ⟨#[70,105,108,101]⟩) w9:=fun _=>by kernel_rfl
 rw[htx] at Hlen ⊢;clear htx
 go_enter Tryz.func132,Tryz.ntmps132
 go_wp2_with fail;rw[HW.out];go_wp2_with fail
 go_region_held3 (fun w'=>w'.cell? ⟨w.heap.size,0,none⟩=some (.int .u8 5))
  (first | go_keep | exact z9)
  ((first
    | (go_at_call 140; refine(wrS ⟨#[70,105,108,101]⟩ (w:=W.drew) Hw1.out Hlen.out hB1).mono ?_; rintro e wy ⟨rfl,hq⟩; have z9:=(Hz.out.others (w:=W.drew) hq.2.2 hne (by decide)).cell 0)))
 all_goals
  go_wp2_with fail
  go_end0
  exact⟨rfl,hq.behind (w1:=W.drew) (Hbx.out.trans (Below.drew (Below.refl _ W))) hB⟩
end Go.Proofs.YtdmakpmbknindaaGreatDoor
