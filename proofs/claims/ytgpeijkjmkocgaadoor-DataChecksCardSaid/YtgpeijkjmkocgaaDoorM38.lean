import Derived.Test.YtgpeijkjmkocgaaDoorM29
set_option linter.unusedVariables false
set_option linter.unusedSimpArgs false
set_option maxHeartbeats 1000000
set_option maxRecDepth 100000
namespace Go.Proofs.YtgpeijkjmkocgaaDoor
open Go.ChangeShapes Go.WideShapes Go.ChangeAt Go.RowKit Go.Deep Go.Joins
section
variable {H:Type} {enc:TypeId × Value→H} {w:World}
theorem cels_rows {X:Type} {S:Nat→Prop} {ec:X→List Cel} {k:Nat} (hk:∀ x,(ec x).length=k):∀ (xs:List X) (b off:Nat),(∀ i (h:i<xs.length),CelsIn w S (ec xs[i]) b (off+i * k))→CelsIn w S (xs.flatMap ec) b off
 | [],b,off,_=>celsIn_nil
 | x :: xs,b,off,h=>by
   rw[List.flatMap_cons,CelsIn.append,hk]
   refine⟨by have:=h 0 (by simp); simpa using this,cels_rows hk xs b (off+k) fun i hi=>?_⟩
   have:=h (i+1) (by simpa using hi)
   rw[show off+(i+1) * k=off+k+i * k from by rw[Nat.add_mul,Nat.one_mul]; omega] at this
   exact this
theorem sl_rows {X:Type} {ec:X→List Cel} {k:Nat} (hk:∀ x,(ec x).length=k) {A:Option Addr} {n c:Nat} {xs:List X} {Ds:List (DataW H)} {El:List Value→DataW H→X→Prop} (h1:xs.length=n) (h2:Ds.length=n) (h3:n≤c) (h4:c≤maxLen)
  (h:0<n→∃ b off,A=some ⟨b,off,none⟩∧b<w.heap.size∧∀ i (h1:i<xs.length) (h2:i<Ds.length),∃ cs':List Value,cs'.length=k∧(∀ j (hj:j<cs'.length),w.cell? ⟨b,off+i * k+j,none⟩=some cs'[j])∧El cs' Ds[i] xs[i])
  (hE:∀ cs' D x,El cs' D x→CelsV w (Lt w.heap.size) (ec x) cs'):Sl w (Lt w.heap.size) ec k xs A n c:=by
 refine⟨h1,h3,h4,fun hn=>?_⟩;obtain⟨b,off,e,hb,hc⟩:=h hn;refine⟨b,off,e,hb,cels_rows hk xs b off fun i hi=>?_⟩;obtain⟨cs',hcl,hat,hel⟩:=hc i hi (by omega);refine(hE _ _ _ hel).in_ fun j u hu=>?_;obtain⟨hj,rfl⟩:=List.getElem?_eq_some_iff.1 hu;exact hat j hj
theorem rows_all {X:Type} {A:Option Addr} {n:Nat} {k:Nat} {xs:List X} {Ds:List (DataW H)} {El:List Value→DataW H→X→Prop} {Q:X→Prop} (h1:xs.length=n) (h2:Ds.length=n)
  (h:0<n→∃ b off,A=some ⟨b,off,none⟩∧b<w.heap.size∧∀ i (h1:i<xs.length) (h2:i<Ds.length),∃ cs':List Value,cs'.length=k∧(∀ j (hj:j<cs'.length),w.cell? ⟨b,off+i * k+j,none⟩=some cs'[j])∧El cs' Ds[i] xs[i])
  (hQ:∀ cs' D x,D∈Ds→El cs' D x→Q x):∀ x∈xs,Q x:=by
 intro x hx;obtain⟨i,hi,rfl⟩:=List.getElem_of_mem hx;obtain⟨b,off,e,hb,hc⟩:=h (by omega);obtain⟨cs',_,_,hel⟩:=hc i hi (by omega);exact hQ _ _ _ (List.getElem_mem _) hel
theorem str_bulk (s:ByteArray):Rows.uptoBulk (DataW.lit (.string s.data.toList):DataW H)=s.size+1:=by
 simp only[Rows.uptoBulk];rw[Array.length_toList];rfl
instance:Inhabited TyW:=⟨.mk 0 ⟨#[]⟩ 0 posZ []⟩
instance:Inhabited FieldD:=⟨⟨0,default⟩⟩
instance:Inhabited ConW:=⟨⟨⟨#[]⟩,posZ,[]⟩⟩
instance:Inhabited DeclD:=⟨⟨0,⟨#[]⟩,posZ,[],[],false,.bool false,.bool false,.bool false,.bool false,.bool false,.bool false,.bool false,.bool false⟩⟩
theorem wC' {S:Nat→Prop} {t:TyW} {A:Option Addr} {m c:Nat} (h:Sl w S encW 7 t.l A m c):CelsV w S (encW t) [.int .u8 t.k,.string t.s,.int .u8 t.m,.int .i64 t.p.at_,.int .i64 t.p.line,.int .i64 t.p.col,.slice A m c]:=by
 rw[encW_eq];exact⟨celIn_v.2 rfl,celIn_v.2 rfl,celIn_v.2 rfl,celIn_v.2 rfl,celIn_v.2 rfl,celIn_v.2 rfl,(sl_iff encW_len (by omega)).2 ⟨A,m,c,rfl,h⟩,trivial⟩
theorem pos_cells {fuel:Nat} {cs:List Value} {x:DataW H × List MemPlace} (h:DataW.trod enc Tryd.prog w 0 (fun _=>true) true fuel 28 cs=some x):∃ p:PosD,cs=[.int .i64 p.at_,.int .i64 p.line,.int .i64 p.col]:=by
 obtain⟨D,Pl⟩:=x;obtain⟨xs,n,rfl,e,hcl,hxl,hf⟩:=DataW.trod_struct Tryd.underlying28 h
 injection e with e _
 subst e;have hln:cs.length=3:=hcl.trans (by kernel_rfl)
 obtain⟨a,b,c,rfl⟩:∃ a b c,cs=[a,b,c]:=by
  match cs,hln with
  | [a,b,c],_=>exact⟨a,b,c,rfl⟩
 obtain⟨y0,y1,y2,rfl⟩:∃ y0 y1 y2,xs=[y0,y1,y2]:=by
  match xs,hxl with
  | [y0,y1,y2],_=>exact⟨y0,y1,y2,rfl⟩
 have k0:=hf 0 _ rfl;have k1:=hf 1 _ rfl;have k2:=hf 2 _ rfl;replace k0:DataW.trod enc Tryd.prog w 0 (fun _=>true) true n 3 (([a,b,c].drop 0).take (Tryd.prog.cellsOf 3))=some y0:=k0
 rw[show Tryd.prog.cellsOf 3=1 from by kernel_rfl] at k0
 replace k0:DataW.trod enc Tryd.prog w 0 (fun _=>true) true n 3 [a]=some y0:=k0;replace k1:DataW.trod enc Tryd.prog w 0 (fun _=>true) true n 3 (([a,b,c].drop 1).take (Tryd.prog.cellsOf 3))=some y1:=k1
 rw[show Tryd.prog.cellsOf 3=1 from by kernel_rfl] at k1
 replace k1:DataW.trod enc Tryd.prog w 0 (fun _=>true) true n 3 [b]=some y1:=k1;replace k2:DataW.trod enc Tryd.prog w 0 (fun _=>true) true n 3 (([a,b,c].drop 2).take (Tryd.prog.cellsOf 3))=some y2:=k2
 rw[show Tryd.prog.cellsOf 3=1 from by kernel_rfl] at k2
 replace k2:DataW.trod enc Tryd.prog w 0 (fun _=>true) true n 3 [c]=some y2:=k2;obtain⟨n0,e0,_⟩:=DataW.trod_int Tryd.underlying3 k0;obtain⟨n1,e1,_⟩:=DataW.trod_int Tryd.underlying3 k1;obtain⟨n2,e2,_⟩:=DataW.trod_int Tryd.underlying3 k2
 injection e0 with e0 _
 injection e1 with e1 _
 injection e2 with e2 _
 subst e0; subst e1; subst e2
 exact⟨⟨n0,n1,n2⟩,rfl⟩
theorem tyw_cells:∀ (N:Nat) (D:DataW H),Rows.uptoBulk D≤N→∀ {fuel:Nat} {cs:List Value} {Pl:List MemPlace},DataW.trod enc Tryd.prog w 0 (fun _=>true) true fuel 47 cs=some (D,Pl)→∃ t:TyW,CelsV w (Lt w.heap.size) (encW t) cs:=by
 intro N
 induction N with
 | zero=>intro D hD; have:=bulk_pos D; omega
 | succ N ih=>
   intro D hD fuel cs Pl h;obtain⟨xs,n,rfl,e,hcl,hxl,hf⟩:=DataW.trod_struct Tryd.underlying47 h
   injection e with e _
   subst e;have hln:cs.length=7:=hcl.trans (by kernel_rfl)
   obtain⟨a,b,c,p0,p1,p2,s,rfl⟩:∃ a b c p0 p1 p2 s,cs=[a,b,c,p0,p1,p2,s]:=by
    match cs,hln with
    | [a,b,c,p0,p1,p2,s],_=>exact⟨a,b,c,p0,p1,p2,s,rfl⟩
   obtain⟨y0,y1,y2,y3,y4,rfl⟩:∃ y0 y1 y2 y3 y4,xs=[y0,y1,y2,y3,y4]:=by
    match xs,hxl with
    | [y0,y1,y2,y3,y4],_=>exact⟨y0,y1,y2,y3,y4,rfl⟩
   have k0:=hf 0 _ rfl;have k1:=hf 1 _ rfl;have k2:=hf 2 _ rfl;have k3:=hf 3 _ rfl;have k4:=hf 4 _ rfl;replace k0:DataW.trod enc Tryd.prog w 0 (fun _=>true) true n 5 (([a,b,c,p0,p1,p2,s].drop 0).take (Tryd.prog.cellsOf 5))=some y0:=k0
   rw[show Tryd.prog.cellsOf 5=1 from by kernel_rfl] at k0
   replace k0:DataW.trod enc Tryd.prog w 0 (fun _=>true) true n 5 [a]=some y0:=k0;replace k1:DataW.trod enc Tryd.prog w 0 (fun _=>true) true n 9 (([a,b,c,p0,p1,p2,s].drop 1).take (Tryd.prog.cellsOf 9))=some y1:=k1
   rw[show Tryd.prog.cellsOf 9=1 from by kernel_rfl] at k1
   replace k1:DataW.trod enc Tryd.prog w 0 (fun _=>true) true n 9 [b]=some y1:=k1;replace k2:DataW.trod enc Tryd.prog w 0 (fun _=>true) true n 44 (([a,b,c,p0,p1,p2,s].drop 2).take (Tryd.prog.cellsOf 44))=some y2:=k2
   rw[show Tryd.prog.cellsOf 44=1 from by kernel_rfl] at k2
   replace k2:DataW.trod enc Tryd.prog w 0 (fun _=>true) true n 44 [c]=some y2:=k2;replace k3:DataW.trod enc Tryd.prog w 0 (fun _=>true) true n 28 (([a,b,c,p0,p1,p2,s].drop 3).take (Tryd.prog.cellsOf 28))=some y3:=k3
   rw[show Tryd.prog.cellsOf 28=3 from by kernel_rfl] at k3
   replace k3:DataW.trod enc Tryd.prog w 0 (fun _=>true) true n 28 [p0,p1,p2]=some y3:=k3;replace k4:DataW.trod enc Tryd.prog w 0 (fun _=>true) true n 45 (([a,b,c,p0,p1,p2,s].drop 6).take (Tryd.prog.cellsOf 45))=some y4:=k4
   rw[show Tryd.prog.cellsOf 45=1 from by kernel_rfl] at k4
   replace k4:DataW.trod enc Tryd.prog w 0 (fun _=>true) true n 45 [s]=some y4:=k4;obtain⟨n0,e0,_⟩:=DataW.trod_int Tryd.underlying5 k0;obtain⟨n1,e1,_⟩:=DataW.trod_string Tryd.underlying9 k1;obtain⟨n2,e2,_⟩:=DataW.trod_int Tryd.underlying44 k2;obtain⟨p,e3⟩:=pos_cells k3
   injection e0 with e0 _
   injection e1 with e1 _
   injection e2 with e2 _
   simp only[List.cons.injEq,and_true] at e3;obtain⟨e3,e4,e5⟩:=e3
   subst e0; subst e1; subst e2; subst e3; subst e4; subst e5
   have hb4:Rows.uptoBulk y4.1+1≤Rows.uptoBulk (DataW.agg ([y0,y1,y2,y3,y4].map (·.1))):=by
    simp only[List.map_cons,List.map_nil,Rows.uptoBulk,Rows.uptoBulkAll];omega
   obtain⟨A,m,cp,ts,Ds,e4,h1,h2,h3,h4,h5,h6⟩:=rows_q 7 (fun cs' (D:DataW H) t=>CelsV w (Lt w.heap.size) (encW t) cs') Tryd.underlying45 (by kernel_rfl) (by omega) k4 (fun n cs' D Pl _ ht hlt=>ih D (by omega) ht);have e4':[s]=[.slice A m cp]:=e4
   injection e4' with e4' _
   subst e4';have hsl:=sl_rows (ec:=encW) (El:=fun cs' (D:DataW H) (t:TyW)=>CelsV w (Lt w.heap.size) (encW t) cs') encW_len h1 h2 h3 h4 h6 fun _ _ _ h=>h;exact⟨.mk n0 n1 n2 p ts,wC' (t:=.mk n0 n1 n2 p ts) hsl⟩
theorem fld_cells {fuel:Nat} {cs:List Value} {x:DataW H × List MemPlace} (h:DataW.trod enc Tryd.prog w 0 (fun _=>true) true fuel 97 cs=some x):∃ f:FieldD,CelsV w (Lt w.heap.size) (encF f) cs:=by
 obtain⟨D,Pl⟩:=x;obtain⟨xs,n,rfl,e,hcl,hxl,hf⟩:=DataW.trod_struct Tryd.underlying97 h
 injection e with e _
 subst e;have hln:cs.length=8:=hcl.trans (by kernel_rfl)
 obtain⟨m,a,b,c,p0,p1,p2,s,rfl⟩:∃ m a b c p0 p1 p2 s,cs=[m,a,b,c,p0,p1,p2,s]:=by
  match cs,hln with
  | [m,a,b,c,p0,p1,p2,s],_=>exact⟨m,a,b,c,p0,p1,p2,s,rfl⟩
 obtain⟨y0,y1,rfl⟩:∃ y0 y1,xs=[y0,y1]:=by
  match xs,hxl with
  | [y0,y1],_=>exact⟨y0,y1,rfl⟩
 have k0:=hf 0 _ rfl;have k1:=hf 1 _ rfl;replace k0:DataW.trod enc Tryd.prog w 0 (fun _=>true) true n 44 (([m,a,b,c,p0,p1,p2,s].drop 0).take (Tryd.prog.cellsOf 44))=some y0:=k0
 rw[show Tryd.prog.cellsOf 44=1 from by kernel_rfl] at k0
 replace k0:DataW.trod enc Tryd.prog w 0 (fun _=>true) true n 44 [m]=some y0:=k0;replace k1:DataW.trod enc Tryd.prog w 0 (fun _=>true) true n 47 (([m,a,b,c,p0,p1,p2,s].drop 1).take (Tryd.prog.cellsOf 47))=some y1:=k1
 rw[show Tryd.prog.cellsOf 47=7 from by kernel_rfl] at k1
 replace k1:DataW.trod enc Tryd.prog w 0 (fun _=>true) true n 47 [a,b,c,p0,p1,p2,s]=some y1:=k1;obtain⟨n0,e0,_⟩:=DataW.trod_int Tryd.underlying44 k0
 injection e0 with e0 _
 subst e0;obtain⟨t,ht⟩:=tyw_cells _ y1.1 (Nat.le_refl _) (Pl:=y1.2) k1;exact⟨⟨n0,t⟩,celIn_v.2 rfl,ht⟩
theorem conw_cells {fuel:Nat} {cs:List Value} {D:DataW H} {Pl:List MemPlace} (h:DataW.trod enc Tryd.prog w 0 (fun _=>true) true fuel 71 cs=some (D,Pl)):∃ c:ConW,CelsV w (Lt w.heap.size) (encC c) cs∧c.name.size≤Rows.uptoBulk D:=by
 obtain⟨xs,n,rfl,e,hcl,hxl,hf⟩:=DataW.trod_struct Tryd.underlying71 h
 injection e with e _
 subst e;have hln:cs.length=5:=hcl.trans (by kernel_rfl)
 obtain⟨a,p0,p1,p2,s,rfl⟩:∃ a p0 p1 p2 s,cs=[a,p0,p1,p2,s]:=by
  match cs,hln with
  | [a,p0,p1,p2,s],_=>exact⟨a,p0,p1,p2,s,rfl⟩
 obtain⟨y0,y1,y2,rfl⟩:∃ y0 y1 y2,xs=[y0,y1,y2]:=by
  match xs,hxl with
  | [y0,y1,y2],_=>exact⟨y0,y1,y2,rfl⟩
 have k0:=hf 0 _ rfl;have k1:=hf 1 _ rfl;have k2:=hf 2 _ rfl;replace k0:DataW.trod enc Tryd.prog w 0 (fun _=>true) true n 9 (([a,p0,p1,p2,s].drop 0).take (Tryd.prog.cellsOf 9))=some y0:=k0
 rw[show Tryd.prog.cellsOf 9=1 from by kernel_rfl] at k0
 replace k0:DataW.trod enc Tryd.prog w 0 (fun _=>true) true n 9 [a]=some y0:=k0;replace k1:DataW.trod enc Tryd.prog w 0 (fun _=>true) true n 28 (([a,p0,p1,p2,s].drop 1).take (Tryd.prog.cellsOf 28))=some y1:=k1
 rw[show Tryd.prog.cellsOf 28=3 from by kernel_rfl] at k1
 replace k1:DataW.trod enc Tryd.prog w 0 (fun _=>true) true n 28 [p0,p1,p2]=some y1:=k1;replace k2:DataW.trod enc Tryd.prog w 0 (fun _=>true) true n 69 (([a,p0,p1,p2,s].drop 4).take (Tryd.prog.cellsOf 69))=some y2:=k2
 rw[show Tryd.prog.cellsOf 69=1 from by kernel_rfl] at k2
 replace k2:DataW.trod enc Tryd.prog w 0 (fun _=>true) true n 69 [s]=some y2:=k2;obtain⟨n0,e0,ey0,_⟩:=DataW.trod_string Tryd.underlying9 k0;obtain⟨p,e1⟩:=pos_cells k1
 injection e0 with e0 _
 simp only[List.cons.injEq,and_true] at e1;obtain⟨e3,e4,e5⟩:=e1
 subst e0; subst e3; subst e4; subst e5
 have hb0:Rows.uptoBulk y0.1+1≤Rows.uptoBulk (DataW.agg ([y0,y1,y2].map (·.1))):=by
  simp only[List.map_cons,List.map_nil,Rows.uptoBulk,Rows.uptoBulkAll];omega
 rw[ey0,str_bulk] at hb0;obtain⟨A,m,cp,fs,Ds,e4,h1,h2,h3,h4,h5,h6⟩:=rows_q 8 (fun cs' (D:DataW H) t=>CelsV w (Lt w.heap.size) (encF t) cs') Tryd.underlying69 (by kernel_rfl) (by omega) k2 (fun n cs' D Pl _ ht hlt=>fld_cells ht);have e4':[s]=[.slice A m cp]:=e4
 injection e4' with e4' _
 subst e4';have hsl:=sl_rows (ec:=encF) (El:=fun cs' (D:DataW H) (t:FieldD)=>CelsV w (Lt w.heap.size) (encF t) cs') encF_len h1 h2 h3 h4 h6 fun _ _ _ h=>h;refine⟨⟨n0,p,fs⟩,⟨celIn_v.2 rfl,celIn_v.2 rfl,celIn_v.2 rfl,celIn_v.2 rfl,(sl_iff encF_len (by omega)).2 ⟨_,_,_,rfl,hsl⟩,trivial⟩,?_⟩;rw[ey0];show n0.size≤_;omega
theorem sl_form {t e:TypeId} {fuel:Nat} {a:Value} {x:DataW H × List MemPlace} (ht:Tryd.prog.underlying t=some (.slice e)) (h:DataW.trod enc Tryd.prog w 0 (fun _=>true) true fuel t [a]=some x):∃ A n c,a=.slice A n c:=by
 rcases open_slice ht h with ⟨hcs,hx⟩ | ⟨a',l,c',m,n',D,Pl,hcs,_⟩
 · injection hcs with hcs _
   exact⟨_,_,_,hcs⟩
 · injection hcs with hcs _
   exact⟨_,_,_,hcs⟩
theorem expr_cells {fuel:Nat} {cs:List Value} {x:DataW H × List MemPlace} (h:DataW.trod enc Tryd.prog w 0 (fun _=>true) true fuel 38 cs=some x):∃ (a0:Int) (a1:ByteArray) (a2 a3 a4 a5:Int) (A6:Option Addr) (m6 c6:Nat) (A7:Option Addr) (m7 c7:Nat),cs=[.int .u8 a0,.string a1,.int .i64 a2,.int .i64 a3,.int .i64 a4,.int .i64 a5,.slice A6 m6 c6,.slice A7 m7 c7]:=by
 obtain⟨D,Pl⟩:=x;obtain⟨xs,n,rfl,e,hcl,hxl,hf⟩:=DataW.trod_struct Tryd.underlying38 h
 injection e with e _
 subst e;have hln:cs.length=8:=hcl.trans (by kernel_rfl)
 obtain⟨a,b,c,p0,p1,p2,s,r,rfl⟩:∃ a b c p0 p1 p2 s r,cs=[a,b,c,p0,p1,p2,s,r]:=by
  match cs,hln with
  | [a,b,c,p0,p1,p2,s,r],_=>exact⟨a,b,c,p0,p1,p2,s,r,rfl⟩
 obtain⟨y0,y1,y2,y3,y4,y5,rfl⟩:∃ y0 y1 y2 y3 y4 y5,xs=[y0,y1,y2,y3,y4,y5]:=by
  match xs,hxl with
  | [y0,y1,y2,y3,y4,y5],_=>exact⟨y0,y1,y2,y3,y4,y5,rfl⟩
 have k0:=hf 0 _ rfl;have k1:=hf 1 _ rfl;have k2:=hf 2 _ rfl;have k3:=hf 3 _ rfl;have k4:=hf 4 _ rfl;have k5:=hf 5 _ rfl;replace k0:DataW.trod enc Tryd.prog w 0 (fun _=>true) true n 5 (([a,b,c,p0,p1,p2,s,r].drop 0).take (Tryd.prog.cellsOf 5))=some y0:=k0
 rw[show Tryd.prog.cellsOf 5=1 from by kernel_rfl] at k0
 replace k0:DataW.trod enc Tryd.prog w 0 (fun _=>true) true n 5 [a]=some y0:=k0;replace k1:DataW.trod enc Tryd.prog w 0 (fun _=>true) true n 9 (([a,b,c,p0,p1,p2,s,r].drop 1).take (Tryd.prog.cellsOf 9))=some y1:=k1
 rw[show Tryd.prog.cellsOf 9=1 from by kernel_rfl] at k1
 replace k1:DataW.trod enc Tryd.prog w 0 (fun _=>true) true n 9 [b]=some y1:=k1;replace k2:DataW.trod enc Tryd.prog w 0 (fun _=>true) true n 2 (([a,b,c,p0,p1,p2,s,r].drop 2).take (Tryd.prog.cellsOf 2))=some y2:=k2
 rw[show Tryd.prog.cellsOf 2=1 from by kernel_rfl] at k2
 replace k2:DataW.trod enc Tryd.prog w 0 (fun _=>true) true n 2 [c]=some y2:=k2;replace k3:DataW.trod enc Tryd.prog w 0 (fun _=>true) true n 28 (([a,b,c,p0,p1,p2,s,r].drop 3).take (Tryd.prog.cellsOf 28))=some y3:=k3
 rw[show Tryd.prog.cellsOf 28=3 from by kernel_rfl] at k3
 replace k3:DataW.trod enc Tryd.prog w 0 (fun _=>true) true n 28 [p0,p1,p2]=some y3:=k3;replace k4:DataW.trod enc Tryd.prog w 0 (fun _=>true) true n 35 (([a,b,c,p0,p1,p2,s,r].drop 6).take (Tryd.prog.cellsOf 35))=some y4:=k4
 rw[show Tryd.prog.cellsOf 35=1 from by kernel_rfl] at k4
 replace k4:DataW.trod enc Tryd.prog w 0 (fun _=>true) true n 35 [s]=some y4:=k4;replace k5:DataW.trod enc Tryd.prog w 0 (fun _=>true) true n 36 (([a,b,c,p0,p1,p2,s,r].drop 7).take (Tryd.prog.cellsOf 36))=some y5:=k5
 rw[show Tryd.prog.cellsOf 36=1 from by kernel_rfl] at k5
 replace k5:DataW.trod enc Tryd.prog w 0 (fun _=>true) true n 36 [r]=some y5:=k5;obtain⟨n0,e0,_⟩:=DataW.trod_int Tryd.underlying5 k0;obtain⟨n1,e1,_⟩:=DataW.trod_string Tryd.underlying9 k1;obtain⟨n2,e2,_⟩:=DataW.trod_int Tryd.underlying2 k2;obtain⟨p,e3⟩:=pos_cells k3;obtain⟨A6,m6,c6,e6⟩:=sl_form Tryd.underlying35 k4;obtain⟨A7,m7,c7,e7⟩:=sl_form Tryd.underlying36 k5
 injection e0 with e0 _
 injection e1 with e1 _
 injection e2 with e2 _
 simp only[List.cons.injEq,and_true] at e3;obtain⟨e3,e4,e5⟩:=e3
 subst e0; subst e1; subst e2; subst e3; subst e4; subst e5; subst e6; subst e7
 exact⟨_,_,_,_,_,_,_,_,_,_,_,_,rfl⟩
theorem strs_cells {fuel:Nat} {a:Value} {x:DataW H × List MemPlace} (h:DataW.trod enc Tryd.prog w 0 (fun _=>true) true fuel 33 [a]=some x):∃ A n c ws,a=.slice A n c∧Sl w (Lt w.heap.size) encS 1 ws A n c:=by
 obtain⟨A,m,cp,fs,Ds,e4,h1,h2,h3,h4,h5,h6⟩:=rows_q 1 (fun cs' (D:DataW H) t=>CelsV w (Lt w.heap.size) (encS t) cs') Tryd.underlying33 (by kernel_rfl) (by omega) h (fun n cs' D Pl hc ht hlt=>by
  obtain⟨s,e,_⟩:=DataW.trod_string Tryd.underlying9 ht
  exact⟨s,by rw[e]; exact⟨celIn_v.2 rfl,trivial⟩⟩)
 injection e4 with e4 _
 exact⟨A,m,cp,fs,e4,sl_rows (ec:=encS) (k:=1) (El:=fun cs' (D:DataW H) (t:ByteArray)=>CelsV w (Lt w.heap.size) (encS t) cs') (fun _=>rfl) h1 h2 h3 h4 h6 fun _ _ _ h=>h⟩
def DclOk (B:Nat) (d:DeclD):Prop:=d.one∧d.name.size≤B∧∀ c∈d.cons,c.name.size≤B
theorem decl_cells {fuel:Nat} {cs:List Value} {D:DataW H} {Pl:List MemPlace} (h:DataW.trod enc Tryd.prog w 0 (fun _=>true) true fuel 40 cs=some (D,Pl)):∃ d:DeclD,CelsV w (Lt w.heap.size) (encD d) cs∧DclOk (Rows.uptoBulk D) d:=by
 obtain⟨xs,n,rfl,e,hcl,hxl,hf⟩:=DataW.trod_struct Tryd.underlying40 h
 injection e with e _
 subst e;have hln:cs.length=16:=hcl.trans (by kernel_rfl)
 obtain⟨a,b,p0,p1,p2,s,r,f,x0,x1,x2,x3,x4,x5,x6,x7,rfl⟩:∃ a b p0 p1 p2 s r f x0 x1 x2 x3 x4 x5 x6 x7,cs=[a,b,p0,p1,p2,s,r,f,x0,x1,x2,x3,x4,x5,x6,x7]:=by
  match cs,hln with
  | [a,b,p0,p1,p2,s,r,f,x0,x1,x2,x3,x4,x5,x6,x7],_=>exact⟨a,b,p0,p1,p2,s,r,f,x0,x1,x2,x3,x4,x5,x6,x7,rfl⟩
 obtain⟨y0,y1,y2,y3,y4,y5,y6,rfl⟩:∃ y0 y1 y2 y3 y4 y5 y6,xs=[y0,y1,y2,y3,y4,y5,y6]:=by
  match xs,hxl with
  | [y0,y1,y2,y3,y4,y5,y6],_=>exact⟨y0,y1,y2,y3,y4,y5,y6,rfl⟩
 have k0:=hf 0 _ rfl;have k1:=hf 1 _ rfl;have k2:=hf 2 _ rfl;have k3:=hf 3 _ rfl;have k4:=hf 4 _ rfl;have k5:=hf 5 _ rfl;have k6:=hf 6 _ rfl;replace k0:DataW.trod enc Tryd.prog w 0 (fun _=>true) true n 5 (([a,b,p0,p1,p2,s,r,f,x0,x1,x2,x3,x4,x5,x6,x7].drop 0).take (Tryd.prog.cellsOf 5))=some y0:=k0
 rw[show Tryd.prog.cellsOf 5=1 from by kernel_rfl] at k0
 replace k0:DataW.trod enc Tryd.prog w 0 (fun _=>true) true n 5 [a]=some y0:=k0;replace k1:DataW.trod enc Tryd.prog w 0 (fun _=>true) true n 9 (([a,b,p0,p1,p2,s,r,f,x0,x1,x2,x3,x4,x5,x6,x7].drop 1).take (Tryd.prog.cellsOf 9))=some y1:=k1
 rw[show Tryd.prog.cellsOf 9=1 from by kernel_rfl] at k1
 replace k1:DataW.trod enc Tryd.prog w 0 (fun _=>true) true n 9 [b]=some y1:=k1;replace k2:DataW.trod enc Tryd.prog w 0 (fun _=>true) true n 28 (([a,b,p0,p1,p2,s,r,f,x0,x1,x2,x3,x4,x5,x6,x7].drop 2).take (Tryd.prog.cellsOf 28))=some y2:=k2
 rw[show Tryd.prog.cellsOf 28=3 from by kernel_rfl] at k2
 replace k2:DataW.trod enc Tryd.prog w 0 (fun _=>true) true n 28 [p0,p1,p2]=some y2:=k2;replace k3:DataW.trod enc Tryd.prog w 0 (fun _=>true) true n 33 (([a,b,p0,p1,p2,s,r,f,x0,x1,x2,x3,x4,x5,x6,x7].drop 5).take (Tryd.prog.cellsOf 33))=some y3:=k3
 rw[show Tryd.prog.cellsOf 33=1 from by kernel_rfl] at k3
 replace k3:DataW.trod enc Tryd.prog w 0 (fun _=>true) true n 33 [s]=some y3:=k3;replace k4:DataW.trod enc Tryd.prog w 0 (fun _=>true) true n 34 (([a,b,p0,p1,p2,s,r,f,x0,x1,x2,x3,x4,x5,x6,x7].drop 6).take (Tryd.prog.cellsOf 34))=some y4:=k4
 rw[show Tryd.prog.cellsOf 34=1 from by kernel_rfl] at k4
 replace k4:DataW.trod enc Tryd.prog w 0 (fun _=>true) true n 34 [r]=some y4:=k4;replace k5:DataW.trod enc Tryd.prog w 0 (fun _=>true) true n 4 (([a,b,p0,p1,p2,s,r,f,x0,x1,x2,x3,x4,x5,x6,x7].drop 7).take (Tryd.prog.cellsOf 4))=some y5:=k5
 rw[show Tryd.prog.cellsOf 4=1 from by kernel_rfl] at k5
 replace k5:DataW.trod enc Tryd.prog w 0 (fun _=>true) true n 4 [f]=some y5:=k5;replace k6:DataW.trod enc Tryd.prog w 0 (fun _=>true) true n 38 (([a,b,p0,p1,p2,s,r,f,x0,x1,x2,x3,x4,x5,x6,x7].drop 8).take (Tryd.prog.cellsOf 38))=some y6:=k6
 rw[show Tryd.prog.cellsOf 38=8 from by kernel_rfl] at k6
 replace k6:DataW.trod enc Tryd.prog w 0 (fun _=>true) true n 38 [x0,x1,x2,x3,x4,x5,x6,x7]=some y6:=k6;obtain⟨n0,e0,_⟩:=DataW.trod_int Tryd.underlying5 k0;obtain⟨n1,e1,ey1,_⟩:=DataW.trod_string Tryd.underlying9 k1;obtain⟨p,e2⟩:=pos_cells k2;obtain⟨Ap,np,cp,ws,e3,hws⟩:=strs_cells k3;obtain⟨bb,e5,_⟩:=DataW.trod_bool Tryd.underlying4 k5;obtain⟨a0,a1,a2,a3,a4,a5,A6,m6,c6,A7,m7,c7,e6⟩:=expr_cells k6
 injection e0 with e0 _
 injection e1 with e1 _
 injection e5 with e5 _
 simp only[List.cons.injEq,and_true] at e2 e6;obtain⟨f0,f1,f2⟩:=e2;obtain⟨g0,g1,g2,g3,g4,g5,g6,g7⟩:=e6
 subst e0; subst e1; subst e3; subst e5; subst f0; subst f1; subst f2; subst g0; subst g1; subst g2; subst g3; subst g4; subst g5; subst g6; subst g7
 have hb1:Rows.uptoBulk y1.1+1≤Rows.uptoBulk (DataW.agg ([y0,y1,y2,y3,y4,y5,y6].map (·.1))):=by
  simp only[List.map_cons,List.map_nil,Rows.uptoBulk,Rows.uptoBulkAll];omega
 have hb4:Rows.uptoBulk y4.1+1≤Rows.uptoBulk (DataW.agg ([y0,y1,y2,y3,y4,y5,y6].map (·.1))):=by
  simp only[List.map_cons,List.map_nil,Rows.uptoBulk,Rows.uptoBulkAll];omega
 rw[ey1,str_bulk] at hb1;obtain⟨A,m,cp',fs,Ds,e4,h1,h2,h3,h4,h5,h6⟩:=rows_q 5 (fun cs' (D:DataW H) (t:ConW)=>CelsV w (Lt w.heap.size) (encC t) cs'∧t.name.size≤Rows.uptoBulk D) Tryd.underlying34 (by kernel_rfl) (by omega) k4 (fun n cs' D Pl _ ht hlt=>conw_cells ht);have e4':[r]=[.slice A m cp']:=e4
 injection e4' with e4' _
 subst e4';have hsl:=sl_rows (ec:=encC) (El:=fun cs' (D:DataW H) (t:ConW)=>CelsV w (Lt w.heap.size) (encC t) cs'∧t.name.size≤Rows.uptoBulk D) encC_len h1 h2 h3 h4 h6 fun _ _ _ h=>h.1
 refine⟨⟨n0,n1,p,ws,fs,bb,.int .u8 a0,.string a1,.int .i64 a2,.int .i64 a3,.int .i64 a4,.int .i64 a5,.slice A6 m6 c6,.slice A7 m7 c7⟩,⟨celIn_v.2 rfl,celIn_v.2 rfl,celIn_v.2 rfl,celIn_v.2 rfl,celIn_v.2 rfl,(sl_iff (enc:=encS) (k:=1) (fun _=>rfl) (by omega)).2 ⟨_,_,_,rfl,hws⟩,(sl_iff encC_len (by omega)).2 ⟨_,_,_,rfl,hsl⟩,celIn_v.2 rfl,celIn_v.2 rfl,celIn_v.2 rfl,celIn_v.2 rfl,celIn_v.2 rfl,celIn_v.2 rfl,celIn_v.2 rfl,celIn_v.2 rfl,celIn_v.2 rfl,trivial⟩,
  ⟨a0,a1,a2,a3,a4,a5,A6,m6,c6,A7,m7,c7,rfl,rfl,rfl,rfl,rfl,rfl,rfl,rfl⟩,?_,?_⟩
 · rw[ey1]
   show n1.size≤_;omega
 · refine rows_all (El:=fun cs' (D:DataW H) (t:ConW)=>CelsV w (Lt w.heap.size) (encC t) cs'∧t.name.size≤Rows.uptoBulk D) h1 h2 h6 fun cs' D x hD hx=>?_
   have:=bulk_part hD;have:=hx.2;omega
end
end Go.Proofs.YtgpeijkjmkocgaaDoor
namespace Go.Proofs.YtgpeijkjmkocgaaDoor
open Go.ChangeShapes Go.WideShapes Go.ChangeAt Go.RowKit Go.Deep Go.Joins
section
variable {H:Type} {enc:TypeId × Value→H} {w:World}
def DclsP (w:World) (v:Value):Prop:=∃ (A:Option Addr) (n c:Nat) (l:List DeclD),v=.slice A n c∧Sl w (Lt w.heap.size) encD 16 l A n c∧n * 208≤140737488355328∧∀ x∈l,x.one
theorem rd_dclw {r:Reach} {b0:Nat} {v:Value} {d:DataW H} {ps:List MemPlace} (hval:Value.okWide Tryd.prog w r b0 42 v) (h:DataW.Trod enc Tryd.prog w 0 (fun _=>true) true 42 v d ps) (hl:Light Tryd.prog 42 d):DclsP w v:=by
 obtain⟨A,n,c,rfl⟩:=okWide_slice Tryd.underlying42 hval;obtain⟨fuel,hf⟩:=h
 obtain⟨A',n',c',xs,e,h1,h3,h4,h5,h6,h7⟩:=rows_in 16 (fun cs' (t:DeclD)=>CelsV w (Lt w.heap.size) (encD t) cs'∧t.one) Tryd.underlying42 (by kernel_rfl) (by omega) (fun n cs' D Pl _ ht _=>by
  obtain⟨x,q1,q2,_⟩:=decl_cells ht
  exact⟨x,q1,q2⟩) hf hl
 have e':Value.slice A n c=.slice A' n' c':=by simpa[Value.cells] using e
 have hby:Tryd.prog.bytesOf 40=208:=by kernel_rfl
 rw[hby] at h5;refine⟨A',n',c',xs,e',⟨h1,h3,h4,fun hn=>?_⟩,?_,fun y hy=>?_⟩
 · obtain⟨b,off,rfl,hb,hr⟩:=h6 hn
   refine⟨b,off,rfl,hb,cels_rows encD_len xs b off fun i hi=>?_⟩;obtain⟨cs',q1,q2,q3,_⟩:=hr i hi
   exact CelsV.in_ q3 fun j u hu=>by
    obtain⟨hj,rfl⟩:=List.getElem?_eq_some_iff.1 hu;exact q2 j hj
 · exact Nat.le_trans h5 (by decide)
 · obtain⟨_,_,q⟩:=h7 y hy
   exact q
end
end Go.Proofs.YtgpeijkjmkocgaaDoor
