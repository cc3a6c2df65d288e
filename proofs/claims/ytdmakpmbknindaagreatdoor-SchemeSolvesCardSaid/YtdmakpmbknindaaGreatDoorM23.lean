import Derived.Test.YtdmakpmbknindaaGreatDoorM22
import Derived.Test.YtdmakpmbknindaaGreatDoorTie
import Derived.Test.YtdmakpmbknindaaGreatDoorCards
import Derived.LaidMore
import Derived.Stop.Joined
import Derived.Stop.LaidErr
import Derived.SevenTiedAt
set_option linter.unusedVariables false
set_option linter.unusedSimpArgs false
set_option maxHeartbeats 1000000
set_option maxRecDepth 100000
namespace Go.Proofs.YtdmakpmbknindaaGreatDoor
open Go.RowKit
section
variable {t a b:TyD} {s x:Int} {r:Bool}
end
theorem TysV.fresh {w w':World} {A:Option Addr} {m cp:Nat} {l:List TyD} (h:TysV w w.heap.size A m cp l) (hb:Below w.heap.size w w'):TysV w' w'.heap.size A m cp l:=(h.below hb).more hb.size
theorem mayTE_facts {t:TyD} (h:mayTE t=0):mayT t=true∧sizeW t≤300:=by
 unfold mayTE at h
 by_cases h1:300<sizeW t
 · rw[if_pos h1] at h; exact absurd h (by decide)
 · rw[if_neg h1] at h
   cases hm:mayT t
   · rw[hm] at h; exact absurd h (by decide)
   · exact⟨rfl,by omega⟩
end Go.Proofs.YtdmakpmbknindaaGreatDoor
namespace Go.Proofs.YtdmakpmbknindaaGreatDoor
open Go.ChangeShapes Go.WideShapes Go.ChangeAt Go.RowKit
def laid3:List (String × DataW Unit):=[("math/bits.deBruijn32tab",Rows.laid_math_bits_deBruijn32tab),("math/bits.deBruijn64tab",Rows.laid_math_bits_deBruijn64tab),("internal/strconv.uint64pow10",Rows.laid_internal_strconv_uint64pow10)]
theorem door_met (os:Os) (args:Array Value):laidMetH Tryz.prog laid3 ((World.doorLaid Tryz.prog 400 os).forCall (fun _ _=>0) ⟨#[],args,[]⟩).memory:=
 laidMetH_of_parts3 (fuel:=8) (laidMet_of_run' 8 (by kernel_rfl) (by kernel_rfl)) (by kernel_rfl) (by kernel_rfl)
theorem tab_of_laid {W:World} (h:laidMetH Tryz.prog laid3 W):Tab W:=by
 rw[MakeChecks.laidMetH_plain _ _ _ (by kernel_rfl)] at h;have h2:laidMet Tryz.prog (("internal/strconv.uint64pow10",Lib.tabData .u64 Lib.pow10Tab) :: []) W:=(laidMet.tail (laidMet.tail h));exact Lib.tabIs_of_head (g:=1) (t:=250) (e:=164) (n:=20) (by kernel_rfl) (by kernel_rfl) Tryz.underlying250 Tryz.underlying164 (by kernel_rfl) (by kernel_rfl) h2
end Go.Proofs.YtdmakpmbknindaaGreatDoor
namespace Go.Proofs.YtdmakpmbknindaaGreatDoor
open Go.ChangeShapes Go.WideShapes Go.ChangeAt Go.RowKit Go.Deep Go.Joins
section
variable {H:Type} {enc:TypeId × Value→H} {w:World} {P:Program}
theorem addr_addH (b o j:Nat):(Addr.add ⟨b,o,none⟩ j)=⟨b,o+j,none⟩:=by unfold Addr.add; split <;> simp_all
theorem bulk_pos (d:DataW H):1≤Rows.uptoBulk d:=by
 cases d with
 | lit l=>cases l <;> simp[Rows.uptoBulk]
 | nil=>simp[Rows.uptoBulk]
 | ptr d=>simp[Rows.uptoBulk]
 | slice elems spare=>simp[Rows.uptoBulk]
 | agg parts=>simp[Rows.uptoBulk]
 | iface t d=>simp[Rows.uptoBulk]
 | map entries=>simp[Rows.uptoBulk]
 | held h=>simp[Rows.uptoBulk]
theorem bulk_part {d:DataW H} {l:List (DataW H)} (h:d∈l):Rows.uptoBulk d≤Rows.uptoBulkAll l:=by
 induction l with
 | nil=>cases h
 | cons x r ih=>
   simp only[Rows.uptoBulkAll]
   rcases qk.1 h with e | e
   · subst e; omega
   · have:=ih e; omega
theorem rows_q {X:Type} [Inhabited X] {t e:TypeId} (k:Nat) (El:List Value→DataW H→X→Prop) (ht:P.underlying t=some (.slice e)) (hk:P.cellsOf e=k) (hk0:0<k)
 {fuel:Nat} {cs:List Value} {x:DataW H × List MemPlace} (h:DataW.trod enc P w 0 (fun _=>true) true fuel t cs=some x)
 (hel:∀ (n:Nat) (cs':List Value) (D:DataW H) (Pl:List MemPlace),cs'.length=k→DataW.trod enc P w 0 (fun _=>true) true n e cs'=some (D,Pl)→Rows.uptoBulk D<Rows.uptoBulk x.1→∃ y,El cs' D y):
 ∃ (A:Option Addr) (n c:Nat) (xs:List X) (Ds:List (DataW H)),cs=[.slice A n c]∧xs.length=n∧Ds.length=n∧n≤c∧c≤maxLen∧Rows.uptoBulkAll Ds+1≤Rows.uptoBulk x.1 ∧
  (0<n→∃ b off,A=some ⟨b,off,none⟩∧b<w.heap.size∧∀ i (h1:i<xs.length) (h2:i<Ds.length),∃ cs':List Value,cs'.length=k∧(∀ j (hj:j<cs'.length),w.cell? ⟨b,off+i * k+j,none⟩=some cs'[j])∧El cs' Ds[i] xs[i]):=by
 rcases open_slice ht h with ⟨hcs,hx⟩ | ⟨a,l,c',m,n',D,Pl,hcs,hb,hln,hm,hmm,hx,hi⟩
 · exact⟨none,0,0,[],[],hcs,rfl,rfl,Nat.le_refl _,Nat.zero_le _,by rw[hx]; simp[Rows.uptoBulk,Rows.uptoBulkAll],fun h=>absurd h (by omega)⟩
 · simp only[if_true] at hmm
   subst hmm;subst hx
   have hbk:Rows.uptoBulkAll ((List.range l).map D)+1≤Rows.uptoBulk (DataW.slice ((List.range l).map D) ((List.range (m - l)).map fun j=>D (l+j))):=by
    simp only[Rows.uptoBulk];omega
   have hall:∀ i,i<l→∃ x:X,∃ b off,a=⟨b,off,none⟩∧b<w.heap.size∧∃ cs':List Value,cs'.length=k∧(∀ j (hj:j<cs'.length),w.cell? ⟨b,off+i * k+j,none⟩=some cs'[j])∧El cs' (D i) x:=by
    intro i hin;obtain⟨cs',hc,ht'⟩:=hi i (by omega);rw[hk] at hc;obtain⟨_,hcl,hat⟩:=World.cells?_some hc
    obtain⟨x,hx⟩:=hel _ _ _ _ hcl ht' (by
     have:=bulk_part (List.mem_map.2 ⟨i,List.mem_range.2 hin,rfl⟩:D i∈(List.range l).map D);show Rows.uptoBulk (D i)<Rows.uptoBulk (DataW.slice ((List.range l).map D) ((List.range (m - l)).map fun j=>D (l+j)))
     omega)
    obtain⟨b,off,sp⟩:=a
    have hs:sp=none:=by
     obtain⟨cs0,hc0,_⟩:=hi 0 (by omega);rw[hk] at hc0;have d0:=(World.cells?_some hc0).2.2 0 (by omega);simp only[Nat.zero_mul,Nat.add_zero,Addr.add,if_true] at d0
     rw[qj (by rw[(World.cells?_some hc0).2.1]; exact hk0)] at d0
     exact spot_none d0
    subst hs;simp only[Go.Deep.add_add] at hat;have h0:=hat 0 (by omega);rw[addr_addH,qj (by omega)] at h0;refine⟨x,b,off,rfl,World.block_lt_of_cell? _ _ h0,cs',hcl,fun j hj=>?_,hx⟩;have hj':=hat j (by omega);rw[addr_addH,qj hj] at hj';rw[Nat.add_assoc];exact hj'
   obtain⟨f,hf⟩:=choose_lt hall
   refine⟨some a,l,m,(List.range l).map f,(List.range l).map D,hcs,by simp,by simp,hln,hm,hbk,fun hn=>?_⟩
   obtain⟨b,off,rfl,hb,_⟩:=hf 0 hn;refine⟨b,off,rfl,hb,fun i h1 h2=>?_⟩;rw[List.length_map,List.length_range] at h1;obtain⟨b',off',e,_,h'⟩:=hf i h1
   injection e with e1 e2 _
   subst e1; subst e2
   simpa using h'
def NodeOk (t:TyD):Prop:=(0≤t.k∧t.k≤255)∧(-9223372036854775808≤t.n∧t.n≤9223372036854775807)∧(-9223372036854775808≤t.v∧t.v≤9223372036854775807)∧(0≤t.c∧t.c≤255)
def TyC (w:World) (cs:List Value) (D:DataW H) (t:TyD):Prop:=
 ∃ A m cp,cs=[.int .u8 t.k,.int .i64 t.n,.int .i64 t.v,.int .u8 t.c,.slice A m cp]∧TysV w w.heap.size A m cp t.l∧nodes t≤Rows.uptoBulk D∧NodeOk t
theorem tys_of {A:Option Addr} {n c:Nat} {xs:List TyD} {Ds:List (DataW H)} (h1:xs.length=n) (h2:n≤c) (h3:c≤maxLen) (hd:Ds.length=n)
 (h4:0<n→∃ b off,A=some ⟨b,off,none⟩∧b<w.heap.size∧∀ i (h1:i<xs.length) (h2:i<Ds.length),∃ cs':List Value,cs'.length=5∧(∀ j (hj:j<cs'.length),w.cell? ⟨b,off+i * 5+j,none⟩=some cs'[j])∧TyC w cs' Ds[i] xs[i]):
 TysV w w.heap.size A n c xs∧nodes.nodesL xs≤Rows.uptoBulkAll Ds:=by
 refine⟨⟨h1,h2,h3,fun hn=>?_⟩,?_⟩
 · obtain⟨b,off,e,hb,hc⟩:=h4 hn
   refine⟨b,off,e,hb,TyRow.of fun i hi=>?_⟩;obtain⟨cs',hcl,hat,A',n',c',rfl,hr,_⟩:=hc i hi (by omega);exact tyAt_iff.2 ⟨hat 0 (by simp),hat 1 (by simp),hat 2 (by simp),hat 3 (by simp),A',n',c',hat 4 (by simp),hr⟩
 · have key:∀ i (h1:i<xs.length) (h2:i<Ds.length),nodes xs[i]≤Rows.uptoBulk Ds[i]:=fun i hi hd'=>by
    obtain⟨b,off,e,hb,hc⟩:=h4 (by omega);obtain⟨cs',_,_,_,_,_,_,_,hn,_⟩:=hc i hi hd';exact hn
   clear h4
   have:∀ (xs:List TyD) (Ds:List (DataW H)),xs.length=Ds.length→(∀ i (h1:i<xs.length) (h2:i<Ds.length),nodes xs[i]≤Rows.uptoBulk Ds[i])→nodes.nodesL xs≤Rows.uptoBulkAll Ds:=by
    intro xs
    induction xs with
    | nil=>intro Ds _ _; simp[nodes.nodesL]
    | cons x xs ih=>
      intro Ds hl hk
      cases Ds with
      | nil=>simp at hl
      | cons d Ds=>
        have h0:=hk 0 (by simp) (by simp)
        have h1:=ih Ds (by simpa using hl) (fun i a b=>by have:=hk (i+1) (by simp; omega) (by simp; omega); simpa using this)
        simp only[nodes.nodesL,Rows.uptoBulkAll];simp only[qe] at h0;omega
   exact this xs Ds (by omega) key
theorem mu_cells {fuel:Nat} {a b:Value} {x:DataW H × List MemPlace} (h:DataW.trod enc Tryz.prog w 0 (fun _=>true) true fuel 24 [a,b]=some x):
 ∃ v c,a=.int .i64 v∧b=.int .u8 c∧(-9223372036854775808≤v∧v≤9223372036854775807)∧(0≤c∧c≤255):=by
 obtain⟨xs,n,rfl,rfl,hcl,hxl,hf⟩:=DataW.trod_struct Tryz.underlying24 h
 obtain⟨y0,y1,rfl⟩:∃ y0 y1,xs=[y0,y1]:=by
  match xs,hxl with
  | [a,b],_=>exact⟨a,b,rfl⟩
 have k0:=hf 0 _ rfl;have k1:=hf 1 _ rfl;replace k0:DataW.trod enc Tryz.prog w 0 (fun _=>true) true n 3 (([a,b].drop 0).take (Tryz.prog.cellsOf 3))=some y0:=k0
 rw[show Tryz.prog.cellsOf 3=1 from by kernel_rfl] at k0
 replace k1:DataW.trod enc Tryz.prog w 0 (fun _=>true) true n 22 (([a,b].drop 1).take (Tryz.prog.cellsOf 22))=some y1:=k1
 rw[show Tryz.prog.cellsOf 22=1 from by kernel_rfl] at k1
 obtain⟨n0,e0,_,w0⟩:=DataW.trod_int Tryz.underlying3 k0;obtain⟨n1,e1,_,w1⟩:=DataW.trod_int Tryz.underlying22 k1
 injection e0 with e0 _
 injection e1 with e1 _
 exact⟨n0,n1,e0,e1,bounds_i64 w0,bounds_u8 w1⟩
theorem ty_cells:∀ (N:Nat) (D:DataW H),Rows.uptoBulk D≤N→∀ {fuel:Nat} {cs:List Value} {Pl:List MemPlace},DataW.trod enc Tryz.prog w 0 (fun _=>true) true fuel 27 cs=some (D,Pl)→∃ t,TyC w cs D t:=by
 intro N
 induction N with
 | zero=>intro D hD; have:=bulk_pos D; omega
 | succ N ih=>
   intro D hD fuel cs Pl h;obtain⟨xs,n,rfl,e,hcl,hxl,hf⟩:=DataW.trod_struct Tryz.underlying27 h
   injection e with e _
   subst e;have hl5:cs.length=5:=hcl.trans (by kernel_rfl)
   obtain⟨a,b,c,d,s,rfl⟩:∃ a b c d s,cs=[a,b,c,d,s]:=by
    match cs,hl5 with
    | [a,b,c,d,s],_=>exact⟨a,b,c,d,s,rfl⟩
   obtain⟨y0,y1,y2,y3,rfl⟩:∃ y0 y1 y2 y3,xs=[y0,y1,y2,y3]:=by
    match xs,hxl with
    | [a,b,c,d],_=>exact⟨a,b,c,d,rfl⟩
   have k0:=hf 0 _ rfl;have k1:=hf 1 _ rfl;have k2:=hf 2 _ rfl;have k3:=hf 3 _ rfl;replace k0:DataW.trod enc Tryz.prog w 0 (fun _=>true) true n 5 (([a,b,c,d,s].drop 0).take (Tryz.prog.cellsOf 5))=some y0:=k0
   rw[show Tryz.prog.cellsOf 5=1 from by kernel_rfl] at k0
   replace k1:DataW.trod enc Tryz.prog w 0 (fun _=>true) true n 3 (([a,b,c,d,s].drop 1).take (Tryz.prog.cellsOf 3))=some y1:=k1
   rw[show Tryz.prog.cellsOf 3=1 from by kernel_rfl] at k1
   replace k2:DataW.trod enc Tryz.prog w 0 (fun _=>true) true n 24 (([a,b,c,d,s].drop 2).take (Tryz.prog.cellsOf 24))=some y2:=k2
   rw[show Tryz.prog.cellsOf 24=2 from by kernel_rfl] at k2
   replace k3:DataW.trod enc Tryz.prog w 0 (fun _=>true) true n 25 (([a,b,c,d,s].drop 4).take (Tryz.prog.cellsOf 25))=some y3:=k3
   rw[show Tryz.prog.cellsOf 25=1 from by kernel_rfl] at k3
   obtain⟨n0,e0,_,w0⟩:=DataW.trod_int Tryz.underlying5 k0;obtain⟨n1,e1,_,w1⟩:=DataW.trod_int Tryz.underlying3 k1;obtain⟨vv,cc,e2,e3,w2,w3⟩:=mu_cells (a:=c) (b:=d) k2
   injection e0 with e0 _
   injection e1 with e1 _
   subst e0; subst e1; subst e2; subst e3
   have hb3:Rows.uptoBulk y3.1+1≤Rows.uptoBulk (DataW.agg ([y0,y1,y2,y3].map (·.1))):=by
    simp only[List.map_cons,List.map_nil,Rows.uptoBulk,Rows.uptoBulkAll];omega
   obtain⟨A,m,cp,ts,Ds,e4,h1,h2,h3,h4,h5,h6⟩:=rows_q 5 (TyC w) Tryz.underlying25 (by kernel_rfl) (by omega) k3 (fun n cs' D Pl _ ht hlt=>ih D (by omega) ht);have e4':[s]=[.slice A m cp]:=e4
   injection e4' with e4' _
   subst e4';obtain⟨hts,hnod⟩:=tys_of h1 h3 h4 h2 h6;refine⟨.mk n0 n1 vv cc ts,A,m,cp,rfl,hts,?_,bounds_u8 w0,bounds_i64 w1,w2,w3⟩;rw[nodes_eq];show 1+nodes.nodesL ts≤_;omega
def TyB (w:World) (v:Value) (d:DataW H):Prop:=∃ (t:TyD) (A:Option Addr) (m cp:Nat),v=.agg #[.int .u8 t.k,.int .i64 t.n,.int .i64 t.v,.int .u8 t.c,.slice A m cp]∧TysV w w.heap.size A m cp t.l∧nodes t≤Rows.uptoBulk d∧NodeOk t
theorem rd_ty {r:Reach} {b0:Nat} {v:Value} {d:DataW H} {ps:List MemPlace} (hval:Value.okWide Tryz.prog w r b0 27 v) (h:DataW.Trod enc Tryz.prog w 0 (fun _=>true) true 27 v d ps):TyB w v d:=by
 obtain⟨cs,rfl,hsz⟩:=okWide_struct Tryz.underlying27 hval;obtain⟨fuel,hf⟩:=h;obtain⟨t,A,m,cp,e,hr,hn,hk⟩:=ty_cells _ d (Nat.le_refl _) hf;refine⟨t,A,m,cp,?_,hr,hn,hk⟩;have:cs.toList=[.int .u8 t.k,.int .i64 t.n,.int .i64 t.v,.int .u8 t.c,.slice A m cp]:=e
 rw[show cs=#[.int .u8 t.k,.int .i64 t.n,.int .i64 t.v,.int .u8 t.c,.slice A m cp] from Array.toList_inj.mp this]
end
end Go.Proofs.YtdmakpmbknindaaGreatDoor
