import Derived.Test.YtdmakpmbknindaaGreatDoorP1
import Derived.Test.YtdmakpmbknindaaGreatDoorP4
import Derived.Test.YtdmakpmbknindaaGreatDoorM27
set_option linter.unusedVariables false
set_option linter.unusedSimpArgs false
set_option maxRecDepth 100000
namespace Go.Proofs.YtdmakpmbknindaaGreatDoor
open Go.RowKit
def muC (ms:List (Int × Int)):List Value:=ms.flatMap fun x=>[.int .i64 x.1,.int .u8 x.2]
theorem muC_len (ms:List (Int × Int)):(muC ms).length=ms.length * 2:=by
 induction ms with
 | nil=>rfl
 | cons x ms ih=>
   have e:muC (x :: ms)=[.int .i64 x.1,.int .u8 x.2]++muC ms:=rfl
   rw[e,List.length_append,ih]; simp; omega
theorem muC_append (a b:List (Int × Int)):muC (a++b)=muC a++muC b:=List.flatMap_append
theorem muC_get {ms:List (Int × Int)} {i:Nat} (h:i<ms.length):(muC ms)[i * 2]?=some (.int .i64 ms[i].1)∧(muC ms)[i * 2+1]?=some (.int .u8 ms[i].2):=by
 have e:ms=ms.take i++ms[i] :: ms.drop (i+1):=by rw[List.getElem_cons_drop,List.take_append_drop]
 have hl:(muC (ms.take i)).length=i * 2:=by rw[muC_len,List.length_take]; omega
 have e2:muC ms=muC (ms.take i)++([.int .i64 ms[i].1,.int .u8 ms[i].2]++muC (ms.drop (i+1))):=by
  conv=>lhs; rw[e]
  rw[muC_append]; rfl
 rw[e2]
 constructor
 · rw[List.getElem?_append_right (by omega),hl,Nat.sub_self]; rfl
 · rw[List.getElem?_append_right (by omega),hl,show i * 2+1 - i * 2=1 from by omega]; rfl
theorem musV_own {w:World} {base n c:Nat} {A:Option Addr} {ms:List (Int × Int)} (h:w.ownsRow base 24 2 (.slice A n c) n (muC ms)):MusV w w.heap.size A n c ms:=by
 have hl:ms.length=n:=by have:=h.1; rw[muC_len] at this; omega
 rcases h.2 with ⟨e0,hn⟩ | ⟨g,cap,cur,e0,hb,hg,hn,hm,hs,ht⟩
 · injection e0 with e1 e2 e3
   subst e1; subst e2; subst e3
   exact⟨hl,Nat.le_refl _,Nat.zero_le _,fun h=>absurd h (by omega)⟩
 · injection e0 with e1 e2 e3
   subst e1; subst e3
   refine⟨hl,hn,hm,fun _=>⟨g,0,rfl,(Array.getElem?_eq_some_iff.1 hg).1,fun i hi=>?_⟩⟩;have hgt:=muC_get hi;have c0:=h.cells (g:=g) rfl _ _ hgt.1;have c1:=h.cells (g:=g) rfl _ _ hgt.2
   rw[show(Addr.add ⟨g,0,none⟩ (i * 2))=⟨g,0+i * 2,none⟩ from by unfold Addr.add; split <;> simp_all] at c0
   rw[show(Addr.add ⟨g,0,none⟩ (i * 2+1))=⟨g,0+(i * 2+1),none⟩ from by unfold Addr.add; split <;> simp_all] at c1
   exact⟨c0,by rw[Nat.add_assoc]; exact c1⟩
end Go.Proofs.YtdmakpmbknindaaGreatDoor
namespace Go.Proofs.YtdmakpmbknindaaGreatDoor
open Go.ChangeShapes Go.WideShapes Go.ChangeAt Go.RowKit Go.Deep Go.Joins
section
variable {H:Type} {enc:TypeId × Value→H} {w:World} {P:Program}
def TysB (w:World) (v:Value) (d:DataW H):Prop:=∃ (A:Option Addr) (n c:Nat) (xs:List TyD),v=.slice A n c∧TysV w w.heap.size A n c xs∧nodes.nodesL xs≤Rows.uptoBulk d
theorem rd_tys {r:Reach} {b0:Nat} {v:Value} {d:DataW H} {ps:List MemPlace} (hval:Value.okWide Tryz.prog w r b0 25 v) (h:DataW.Trod enc Tryz.prog w 0 (fun _=>true) true 25 v d ps):TysB w v d:=by
 obtain⟨A,n,c,rfl⟩:=okWide_slice Tryz.underlying25 hval;obtain⟨fuel,hf⟩:=h;obtain⟨A',n',c',xs,Ds,e,h1,h2,h3,h4,h5,h6⟩:=rows_q 5 (TyC w) Tryz.underlying25 (by kernel_rfl) (by omega) hf (fun n cs' D Pl _ ht _=>ty_cells _ D (Nat.le_refl _) ht)
 have e':Value.slice A n c=.slice A' n' c':=by simpa[Value.cells] using e
 obtain⟨hts,hnod⟩:=tys_of h1 h3 h4 h2 h6;have h5':Rows.uptoBulkAll Ds+1≤Rows.uptoBulk d:=h5
 exact⟨A',n',c',xs,e',hts,by omega⟩
end
end Go.Proofs.YtdmakpmbknindaaGreatDoor
namespace Go.Proofs.YtdmakpmbknindaaGreatDoor
open Go.ChangeShapes Go.WideShapes Go.ChangeAt Go.RowKit Go.Deep Go.Joins
section
variable {H:Type} {enc:TypeId × Value→H} {w:World}
def MuRow (w:World) (cs:List Value) (l:List Int):Prop:=∃ A n c,cs=[.slice A n c]∧RdI .u8 w w.heap.size A n c l
theorem row_cells {fuel:Nat} {cs:List Value} {x:DataW H × List MemPlace} (h:DataW.trod enc Tryz.prog w 0 (fun _=>true) true fuel 35 cs=some x) (hc:cs.length=1):∃ l,MuRow w cs l:=by
 obtain⟨a,rfl⟩:∃ a,cs=[a]:=by
  match cs,hc with
  | [a],_=>exact⟨a,rfl⟩
 obtain⟨A,n,c,us,e,hr,_⟩:=rd_ints_c Tryz.underlying35 Tryz.underlying22 (by kernel_rfl) h
 exact⟨us,A,n,c,by rw[e],hr⟩
theorem rows_cells {fuel:Nat} {a:Value} {x:DataW H × List MemPlace} (h:DataW.trod enc Tryz.prog w 0 (fun _=>true) true fuel 36 [a]=some x) (hl:Light Tryz.prog 36 x.1):∃ A n c ls,a=.slice A n c∧MssV w w.heap.size A n c ls:=by
 obtain⟨A,n,c,ls,e,h1,h2,h3,h4,h5,h6⟩:=rows_in 1 (MuRow w) Tryz.underlying36 (by kernel_rfl) (by omega) (fun _ _ _ _ hc ht hl=>row_cells ht hc) h hl
 injection e with e _
 refine⟨A,n,c,ls,e,h1,h2,h3,fun hn=>?_⟩;obtain⟨b,off,e,hb,hc⟩:=h5 hn;refine⟨b,off,e,hb,fun i hi=>?_⟩;obtain⟨cs',hcl,hat,A2,n2,c2,rfl,hr⟩:=hc i hi;have h0:=hat 0 (by simp);rw[Nat.mul_one,Nat.add_zero] at h0;have hl:=hr.len;subst hl;exact⟨A2,c2,h0,hr⟩
def SchIn (w:World) (v:Value):Prop:=∃ s,SchV w w.heap.size v s
theorem rd_sch {r:Reach} {b0:Nat} {v:Value} {d:DataW H} {ps:List MemPlace} (hval:Value.okWide Tryz.prog w r b0 40 v) (h:DataW.Trod enc Tryz.prog w 0 (fun _=>true) true 40 v d ps) (hl:Light Tryz.prog 40 d):SchIn w v:=by
 obtain⟨cs,rfl,hsz⟩:=okWide_struct Tryz.underlying40 hval;obtain⟨fuel,hf⟩:=h;obtain⟨n,hcl,hfd⟩:=field_in Tryz.underlying40 hf hl;have hl10:(Value.agg cs).cells.toList.length=10:=hcl.trans (by kernel_rfl);obtain⟨L,hL⟩:∃ L,(Value.agg cs).cells.toList=L:=⟨_,rfl⟩
 have hcs:cs=L.toArray:=by rw[← hL]; show cs=cs.toList.toArray; simp
 rw[hL] at hfd hl10
 obtain⟨v0,v1,v2,v3,v4,v5,v6,v7,v8,v9,rfl⟩:∃ v0 v1 v2 v3 v4 v5 v6 v7 v8 v9,L=[v0,v1,v2,v3,v4,v5,v6,v7,v8,v9]:=by
  match L,hl10 with
  | [v0,v1,v2,v3,v4,v5,v6,v7,v8,v9],_=>exact⟨v0,v1,v2,v3,v4,v5,v6,v7,v8,v9,rfl⟩
 obtain⟨y0,k0,_⟩:=hfd 0 _ rfl;obtain⟨y1,k1,_⟩:=hfd 1 _ rfl;obtain⟨y2,k2,_⟩:=hfd 2 _ rfl;obtain⟨y3,k3,l3⟩:=hfd 3 _ rfl;replace k0:DataW.trod enc Tryz.prog w 0 (fun _=>true) true n 3 (([v0,v1,v2,v3,v4,v5,v6,v7,v8,v9].drop 0).take (Tryz.prog.cellsOf 3))=some y0:=k0
 rw[show Tryz.prog.cellsOf 3=1 from by kernel_rfl] at k0
 replace k1:DataW.trod enc Tryz.prog w 0 (fun _=>true) true n 3 (([v0,v1,v2,v3,v4,v5,v6,v7,v8,v9].drop 1).take (Tryz.prog.cellsOf 3))=some y1:=k1
 rw[show Tryz.prog.cellsOf 3=1 from by kernel_rfl] at k1
 replace k2:DataW.trod enc Tryz.prog w 0 (fun _=>true) true n 27 (([v0,v1,v2,v3,v4,v5,v6,v7,v8,v9].drop 2).take (Tryz.prog.cellsOf 27))=some y2:=k2
 rw[show Tryz.prog.cellsOf 27=5 from by kernel_rfl] at k2
 replace k3:DataW.trod enc Tryz.prog w 0 (fun _=>true) true n 38 (([v0,v1,v2,v3,v4,v5,v6,v7,v8,v9].drop 7).take (Tryz.prog.cellsOf 38))=some y3:=k3
 rw[show Tryz.prog.cellsOf 38=3 from by kernel_rfl] at k3
 obtain⟨n0,e0,_⟩:=DataW.trod_int Tryz.underlying3 k0;obtain⟨n1,e1,_⟩:=DataW.trod_int Tryz.underlying3 k1;obtain⟨t,ht⟩:=ty_cells (Rows.uptoBulk y2.1) y2.1 (Nat.le_refl _) (Pl:=y2.2) k2;have k3':DataW.trod enc Tryz.prog w 0 (fun _=>true) true n 38 [v7,v8,v9]=some y3:=k3;obtain⟨n',hcl',hfd'⟩:=field_in Tryz.underlying38 k3' l3;obtain⟨z0,m0,_⟩:=hfd' 0 _ rfl;obtain⟨z1,m1,_⟩:=hfd' 1 _ rfl;obtain⟨z2,m2,l2⟩:=hfd' 2 _ rfl;replace m0:DataW.trod enc Tryz.prog w 0 (fun _=>true) true n' 35 (([v7,v8,v9].drop 0).take (Tryz.prog.cellsOf 35))=some z0:=m0
 rw[show Tryz.prog.cellsOf 35=1 from by kernel_rfl] at m0
 replace m1:DataW.trod enc Tryz.prog w 0 (fun _=>true) true n' 35 (([v7,v8,v9].drop 1).take (Tryz.prog.cellsOf 35))=some z1:=m1
 rw[show Tryz.prog.cellsOf 35=1 from by kernel_rfl] at m1
 replace m2:DataW.trod enc Tryz.prog w 0 (fun _=>true) true n' 36 (([v7,v8,v9].drop 2).take (Tryz.prog.cellsOf 36))=some z2:=m2
 rw[show Tryz.prog.cellsOf 36=1 from by kernel_rfl] at m2
 obtain⟨lo,Ao,no,co,eo,ro⟩:=row_cells m0 rfl;obtain⟨up,Au,nu,cu,eu,ru⟩:=row_cells m1 rfl;obtain⟨Ap,np,cp,ps,ep,rp⟩:=rows_cells m2 l2;obtain⟨A,m,c,et,rt,_⟩:=ht
 injection e0 with e0 _
 injection e1 with e1 _
 injection eo with eo _
 injection eu with eu _
 have et:[v2,v3,v4,v5,v6]=[.int .u8 t.k,.int .i64 t.n,.int .i64 t.v,.int .u8 t.c,.slice A m c]:=et
 injection et with q0 et
 injection et with q1 et
 injection et with q2 et
 injection et with q3 et
 injection et with q4 _
 have ho:=ro.len;have hu:=ru.len;have hp:=rp.1
 subst ho; subst hu; subst hp
 refine⟨⟨n0,n1,t,⟨lo,up,ps⟩⟩,A,m,c,Ao,co,Au,cu,Ap,cp,?_,⟨rt,ro,ru,rp⟩⟩;rw[hcs,e0,e1,eo,eu,ep,q0,q1,q2,q3,q4];rfl
end
end Go.Proofs.YtdmakpmbknindaaGreatDoor
