import Derived.Test.YtgpeijkjmkocgaaDoorM4
import Derived.Deep.DeepCutAuto
import Derived.Deep.CutBlock
import Derived.Shelf.SlicesE.Clone
set_option linter.unusedVariables false
set_option linter.unusedSimpArgs false
set_option maxHeartbeats 4000000
set_option maxRecDepth 100000
namespace Go.Proofs.YtgpeijkjmkocgaaDoor
open Go.RowKit
def mayT:TyD→Bool
 | .mk k n v c l=>isN (.mk k n v c l)&&mayL l
where mayL:List TyD→Bool
 | []=>true
 | t :: r=>mayT t&&mayL r
theorem mayL_all (l:List TyD):mayT.mayL l=l.all mayT:=by
 induction l with
 | nil=>rfl
 | cons t r ih=>rw[mayT.mayL,List.all_cons,ih]
theorem mayT_eq (t:TyD):mayT t=(isN t&&t.l.all mayT):=by
 cases t; rw[mayT,mayL_all]; rfl
def mayTE (t:TyD):Int:=if 300<sizeW t then 3 else if mayT t then 0 else 2
def idxT (p:TyD→Bool) (ts:List TyD):Int:=match ts.findIdx? p with
 | some i=>i
 | none => -1
theorem idxT_some {p:TyD→Bool} {ts:List TyD} {i:Nat} (h:i<ts.length) (hb:∀ j (h:j<ts.length),j<i→p ts[j]=false) (hp:p ts[i]=true):idxT p ts=i:=by
 have:ts.findIdx? p=some i:=List.findIdx?_eq_some_iff_getElem.2 ⟨h,hp,fun j hj=>by simp[hb j (by omega) hj]⟩
 unfold idxT;rw[this]
theorem idxT_none {p:TyD→Bool} {ts:List TyD} (hb:∀ j (h:j<ts.length),p ts[j]=false):idxT p ts = -1:=by
 have:ts.findIdx? p=none:=List.findIdx?_eq_none_iff.2 fun x hx=>by
  obtain⟨j,hj,rfl⟩:=List.getElem_of_mem hx;exact hb j hj
 unfold idxT;rw[this]
theorem idxT_any (p:TyD→Bool) (ts:List TyD):decide (idxT p ts≥0)=ts.any p:=by
 unfold idxT
 cases h:ts.findIdx? p with
 | none=>
   rw[List.findIdx?_eq_none_iff] at h
   have:ts.any p=false:=by rw[List.any_eq_false]; intro x hx; simp[h x hx]
   rw[this]; rfl
 | some i=>
   obtain⟨hi,hp,_⟩:=List.findIdx?_eq_some_iff_getElem.1 h;have:ts.any p=true:=List.any_eq_true.2 ⟨_,List.getElem_mem hi,hp⟩;rw[this];simp
theorem indexG (p:TyD→Bool) (F:FuncId) (cap:Array Value) (hF:∀ (a:Array Value) (w:World),Sem.run Tryd.prog (callFunc F a) w=.ok (.enter F a) w) (A:Option Addr) (n c:Nat) (ts:List TyD) (w:World) (hr:TysV w w.heap.size A n c ts)
  (he:∀ i (h:i<ts.length) (A':Option Addr) (m' c':Nat) (w':World),Below w.heap.size w w'→TysV w' w'.heap.size A' m' c' ts[i].l →
    Calls Tryd.prog F (#[.agg #[.int .u8 ts[i].k,.int .i64 ts[i].n,.int .i64 ts[i].v,.int .u8 ts[i].c,.slice A' m' c']]++cap) w' fun e w''=>e=.returned (.bool (p ts[i]))∧Below w'.heap.size w' w''):
  Calls Tryd.prog 58 #[.slice A n c,.func (.func F) #[] cap] w fun e w'=>e=.returned (.int .i64 (idxT p ts))∧Below w.heap.size w w':=by
 have hlen:=hr.len;have m63:n≤9223372036854775807:=Nat.le_trans hr.2.1 hr.2.2.1;have Hr:=qq hr;have He:=qq he;clear hr he
 go_enter Tryd.func58,Tryd.ntmps58
 go_wp2_with fail
 go_loopg [5,8] n (fun g _ i wr=>∃ k:Nat,k≤n∧g=n - k∧i=.int .i64 k∧(∀ j (h:j<ts.length),j<k→p ts[j]=false)∧Below w.heap.size w wr)
 case atStart=>exact⟨0,Nat.zero_le _,rfl,rfl,fun j _ h=>absurd h (by omega),Below.refl _ _⟩
 case round=>
  obtain⟨k,hk,rfl,rfl,hno,hbel⟩:=hrel;have Hno:=qq hno;have Hbel:=qq hbel;clear hno
  by_cases hkn:k<n
  · have d0:decide (k<n)=true:=by simpa using hkn
    have hk':k<ts.length:=by omega
    obtain⟨b,off,rfl,hb,hc⟩:=(Hr.out.below hbel).at_ (by omega);obtain⟨e0,e1,e2,e3,Ax,mx,cx,e4,hx⟩:=tyAt_iff.1 (hc k hk');have hq:=He.out k hk' Ax mx cx wr hbel (hx.more hbel.size);obtain⟨P,hP⟩:∃ P,p ts[k]=P:=⟨_,rfl⟩;rw[hP] at hq;have HP:=qq hP;obtain⟨x,hxk⟩:∃ x,ts[k]=x:=⟨_,rfl⟩;rw[hxk] at e0 e1 e2 e3 hx hq;have Hq:=qq hq
    have k1:(0:Int)≤(k:Int):=by omega
    have k2:(k:Int)<n:=by omega
    clear hc hx hxk hq hP hbel
    cases P with
    | false=>
      have hno2:∀ j (h:j<ts.length),j<k+1→p ts[j]=false:=fun j hj hjk=>by
       rcases Nat.lt_or_ge j k with h | h
       · exact Hno.out j hj h
       · have:j=k:=by omega
         subst this;exact HP.out
      have Hno2:=qq hno2;clear hno2;go_wp2_with fail
      refine Hq.out.mono ?_; rintro e w1 ⟨rfl,hb1⟩
      have Hb1:=qq (Hbel.out.trans (hb1.mono Hbel.out.size));clear hb1;go_wp2_with fail;go_roundg (n - (k+1))
      case measure=>omega
      case rel=>exact⟨k+1,by omega,rfl,by go_num,Hno2.out,Hb1.out⟩
    | true=>
      have HF:Hid ((k:Int)=idxT p ts):=qq (idxT_some hk' Hno.out HP.out).symm;go_wp2_with fail
      refine Hq.out.mono ?_; rintro e w1 ⟨rfl,hb1⟩
      have Hb1:=qq (Hbel.out.trans (hb1.mono Hbel.out.size));clear hb1;go_wp2_with fail;go_ret;exact⟨ret_int HF.out,Hb1.out⟩
  · have d0:decide (k<n)=false:=by simpa using hkn
    have HF:Hid (-1=idxT p ts):=qq (idxT_none (fun j hj=>Hno.out j hj (by omega))).symm;go_wp2_with fail;go_ret;exact⟨ret_int HF.out,Hbel.out⟩
theorem containsG (p:TyD→Bool) (F:FuncId) (cap:Array Value) (hF:∀ (a:Array Value) (w:World),Sem.run Tryd.prog (callFunc F a) w=.ok (.enter F a) w) (A:Option Addr) (n c:Nat) (ts:List TyD) (w:World) (hr:TysV w w.heap.size A n c ts)
  (he:∀ i (h:i<ts.length) (A':Option Addr) (m' c':Nat) (w':World),Below w.heap.size w w'→TysV w' w'.heap.size A' m' c' ts[i].l →
    Calls Tryd.prog F (#[.agg #[.int .u8 ts[i].k,.int .i64 ts[i].n,.int .i64 ts[i].v,.int .u8 ts[i].c,.slice A' m' c']]++cap) w' fun e w''=>e=.returned (.bool (p ts[i]))∧Below w'.heap.size w' w'') (r:Bool) (hr2:ts.any p=r):
  Calls Tryd.prog 25 #[.slice A n c,.func (.func F) #[] cap] w fun e w'=>e=.returned (.bool r)∧Below w.heap.size w w':=by
 have hi:=indexG p F cap hF A n c ts w hr he;have hd:=idxT_any p ts;rw[hr2] at hd;obtain⟨z,hz⟩:∃ z,idxT p ts=z:=⟨_,rfl⟩;rw[hz] at hi hd;have Hi:=qq hi;clear hi hz hr he hr2
 cases r with
 | true=>
   go_enter Tryd.func25,Tryd.ntmps25
   go_wp2_with fail
   refine Hi.out.mono ?_; rintro e w1 ⟨rfl,hb1⟩
   go_wp2_with fail;go_ret;exact⟨rfl,hb1⟩
 | false=>
   go_enter Tryd.func25,Tryd.ntmps25
   go_wp2_with fail
   refine Hi.out.mono ?_; rintro e w1 ⟨rfl,hb1⟩
   go_wp2_with fail;go_ret;exact⟨rfl,hb1⟩
def MayCell (w:World) (gp:Nat):Prop:=w.cell? ⟨gp,0,none⟩=some (.func (.func 81) #[] #[.pointer (some ⟨gp,0,none⟩)])
theorem MayCell.below {w w':World} {gp:Nat} (h:MayCell w gp) (hb:Below w.heap.size w w'):MayCell w' gp:=(hb.cell (p:=⟨gp,0,none⟩) (block_lt_of_cell h)).trans h
theorem may1_go (gp:Nat):∀ (N:Nat) (t:TyD),nodes t≤N→∀ (A:Option Addr) (m cp:Nat) (w:World),TysV w w.heap.size A m cp t.l→MayCell w gp →
  Calls Tryd.prog 81 #[.agg #[.int .u8 t.k,.int .i64 t.n,.int .i64 t.v,.int .u8 t.c,.slice A m cp],.pointer (some ⟨gp,0,none⟩)] w fun e w'=>e=.returned (.bool (mayT t))∧Below w.heap.size w w'
 | 0,t,hN,A,m,cp,w,h,hg=>absurd hN (by rw[nodes_eq t]; omega)
 | N+1,t,hN,A,m,cp,w,hl,hg=>by
   have hlen:=hl.len;have m63:m≤9223372036854775807:=Nat.le_trans hl.2.1 hl.2.2.1;have hbx:=below_box (w:=w) (Obj.cells #[.int .u8 t.k,.int .i64 t.n,.int .i64 t.v,.int .u8 t.c,.slice A m cp] 63);have hz:=blk_new w #[.int .u8 t.k,.int .i64 t.n,.int .i64 t.v,.int .u8 t.c,.slice A m cp] 63;have hL:=(hl.below hbx).more hbx.size;have hg1:=hg.below hbx
   have HN:Hid (∀ i (h:i<t.l.length),nodes t.l[i]≤N):=qq fun i h=>by have:=nodes_get h; omega
   -- a child,by the inner closure
   have hin:∀ i (h:i<t.l.length) (A':Option Addr) (m' c':Nat) (w':World),MayCell w' gp→TysV w' w'.heap.size A' m' c' t.l[i].l →
     Calls Tryd.prog 83 (#[.agg #[.int .u8 t.l[i].k,.int .i64 t.l[i].n,.int .i64 t.l[i].v,.int .u8 t.l[i].c,.slice A' m' c']]++#[.pointer (some ⟨gp,0,none⟩)]) w' fun e w''=>e=.returned (.bool (!mayT t.l[i]))∧Below w'.heap.size w' w'':=by
    intro i h A' m' c' w' hg' hx;have hbB:=below_box (w:=w') (Obj.cells #[.int .u8 t.l[i].k,.int .i64 t.l[i].n,.int .i64 t.l[i].v,.int .u8 t.l[i].c,.slice A' m' c'] 63);have hzB:=blk_new w' #[.int .u8 t.l[i].k,.int .i64 t.l[i].n,.int .i64 t.l[i].v,.int .u8 t.l[i].c,.slice A' m' c'] 63;have hgB:(w'.alloc (Obj.cells #[.int .u8 t.l[i].k,.int .i64 t.l[i].n,.int .i64 t.l[i].v,.int .u8 t.l[i].c,.slice A' m' c'] 63)).cell? ⟨gp,0,none⟩=some (.func (.func 81) #[] #[.pointer (some ⟨gp,0,none⟩)]):=hg'.below hbB;have hq:=may1_go gp N t.l[i] (HN.out i h) A' m' c' _ ((hx.below hbB).more hbB.size) hgB;have Hq:=qq hq;have HbB:=qq hbB;obtain⟨M,hM⟩:∃ M,mayT t.l[i]=M:=⟨_,rfl⟩;rw[hM] at Hq ⊢;clear hq hx hg' hbB hM;generalize t.l[i]=x at hzB Hq HbB hgB ⊢;have x0:=hzB.cell 0;have x1:=hzB.cell 1;have x2:=hzB.cell 2;have x3:=hzB.cell 3;have x4:=hzB.cell 4;clear hzB
    cases M with
    | true=>
      go_enter Tryd.func83,Tryd.ntmps83
      go_wp2_with fail
      refine Hq.out.mono ?_; rintro e w1 ⟨rfl,hb1⟩
      have hb2:=HbB.out.trans (hb1.mono HbB.out.size);clear hgB x0 x1 x2 x3 x4 hb1;go_wp2_with fail;go_ret;exact⟨rfl,hb2⟩
    | false=>
      go_enter Tryd.func83,Tryd.ntmps83
      go_wp2_with fail
      refine Hq.out.mono ?_; rintro e w1 ⟨rfl,hb1⟩
      have hb2:=HbB.out.trans (hb1.mono HbB.out.size);clear hgB x0 x1 x2 x3 x4 hb1;go_wp2_with fail;go_ret;exact⟨rfl,hb2⟩
   have hq1:=fun(w':World)=>isN_any t.k t.n t.v t.c t.l A m cp w' hlen m63;rw[← t.eta] at hq1;have Hq1:=qq hq1;have HL:=qq hL;have Hz:=qq hz;have Hg:=qq hg1;have Hbx:=qq hbx;have Hin:=qq hin;have hmt:=mayT_eq t;obtain⟨I,hI⟩:∃ I,isN t=I:=⟨_,rfl⟩;rw[hI] at Hq1 hmt;have Hmt:=qq hmt;clear hl hbx hz hL hg hg1 hN hin hq1 hmt hI
   go_enter Tryd.func81,Tryd.ntmps81
   have z0:(w.alloc (Obj.cells #[.int .u8 t.k,.int .i64 t.n,.int .i64 t.v,.int .u8 t.c,.slice A m cp] 63)).cell? ⟨w.heap.size,0,none⟩=_:=Hz.out.cell 0;have z1:(w.alloc (Obj.cells #[.int .u8 t.k,.int .i64 t.n,.int .i64 t.v,.int .u8 t.c,.slice A m cp] 63)).cell? ⟨w.heap.size,1,none⟩=_:=Hz.out.cell 1;have z2:(w.alloc (Obj.cells #[.int .u8 t.k,.int .i64 t.n,.int .i64 t.v,.int .u8 t.c,.slice A m cp] 63)).cell? ⟨w.heap.size,2,none⟩=_:=Hz.out.cell 2;have z3:(w.alloc (Obj.cells #[.int .u8 t.k,.int .i64 t.n,.int .i64 t.v,.int .u8 t.c,.slice A m cp] 63)).cell? ⟨w.heap.size,3,none⟩=_:=Hz.out.cell 3;have z4:(w.alloc (Obj.cells #[.int .u8 t.k,.int .i64 t.n,.int .i64 t.v,.int .u8 t.c,.slice A m cp] 63)).cell? ⟨w.heap.size,4,none⟩=_:=Hz.out.cell 4
   cases I with
   | false=>
     have HR:Hid (false=mayT t):=qq (by rw[Hmt.out]; rfl)
     go_wp2_with fail
     refine(Hq1.out _).mono ?_; rintro e w1 ⟨rfl,hb1⟩
     have hb2:=Hbx.out.trans (hb1.mono Hbx.out.size);clear z0 z1 z2 z3 z4 hb1;go_wp2_with fail;go_ret;exact⟨ret_bool HR.out,hb2⟩
   | true=>
     go_wp2_with fail
     refine(Hq1.out _).mono ?_; rintro e w1 ⟨rfl,hb1⟩
     have hL1:=(HL.out.below hb1).more hb1.size;have hg1:=Hg.out.below hb1;have y4:w1.cell? ⟨w.heap.size,4,none⟩=some (.slice A m cp):=(Hz.out.below hb1 Hz.out.lt).cell 4;have hb2:=Hbx.out.trans (hb1.mono Hbx.out.size);obtain⟨R,hR⟩:∃ R,t.l.any (fun x=>!mayT x)=R:=⟨_,rfl⟩;have hq:=containsG (fun x=>!mayT x) 83 #[.pointer (some ⟨gp,0,none⟩)] (fun _ _=>rfl) A m cp t.l w1 hL1 (fun i h A' m' c' w' hb hx=>Hin.out i h A' m' c' w' (hg1.below hb) hx) R hR;have Hq:=qq hq;have HR:Hid ((!R)=mayT t):=qq (by rw[Hmt.out,Bool.true_and,← hR,List.all_eq_not_any_not]);have Hb2:=qq hb2;clear z0 z1 z2 z3 z4 hb1 hL1 hg1 hb2 hq hR Hq1 HL Hz Hg Hbx Hin Hmt
     cases R with
     | true=>
       go_wp2_with fail
       refine Hq.out.mono ?_; rintro e w3 ⟨rfl,hb3⟩
       have hb4:=Hb2.out.trans (hb3.mono Hb2.out.size);clear hb3 y4;go_wp2_with fail;go_ret;exact⟨ret_bool HR.out,hb4⟩
     | false=>
       go_wp2_with fail
       refine Hq.out.mono ?_; rintro e w3 ⟨rfl,hb3⟩
       have hb4:=Hb2.out.trans (hb3.mono Hb2.out.size);clear hb3 y4;go_wp2_with fail;go_ret;exact⟨ret_bool HR.out,hb4⟩
end Go.Proofs.YtgpeijkjmkocgaaDoor
namespace Go.Proofs.YtgpeijkjmkocgaaDoor
open Go.RowKit
theorem run_store_func {P:Program} {w:World} (a:Addr) (f:Fn) (xs ys:Array Value) (m:Mode):(store a (.func f xs ys) m).run P w=stored P w a (.func f xs ys) m:=run_store P w a _ m rfl
attribute [local go_sem] run_store_func
theorem tyMay_any (t:TyD) (x:Value) (w:World) (h:TyV w w.heap.size x t):
  Calls Tryd.prog 54 #[x] w fun e w'=>e=.returned (.int .i64 (mayTE t))∧Below w.heap.size w w':=by
 obtain⟨A,m,cp,rfl,hl⟩:=h;have hbx:=below_box (w:=w) (Obj.cells #[.int .u8 t.k,.int .i64 t.n,.int .i64 t.v,.int .u8 t.c,.slice A m cp] 63);have hz:=blk_new w #[.int .u8 t.k,.int .i64 t.n,.int .i64 t.v,.int .u8 t.c,.slice A m cp] 63;have hL:=(hl.below hbx).more hbx.size;have z0:=hz.cell 0;have z1:=hz.cell 1;have z2:=hz.cell 2;have z3:=hz.cell 3;have z4:=hz.cell 4;have hq:=size_any t (.agg #[.int .u8 t.k,.int .i64 t.n,.int .i64 t.v,.int .u8 t.c,.slice A m cp]) _ ⟨A,m,cp,rfl,hL⟩;obtain⟨s,hs⟩:∃ s,sizeW t=s:=⟨_,rfl⟩;rw[hs] at hq;have Hq:=qq hq;have HL:=qq hL;have Hz:=qq hz;have Hbx:=qq hbx
 have hE:mayTE t=if 300<s then 3 else if mayT t then 0 else 2:=by unfold mayTE; rw[hs]
 have HE:=qq hE;clear hl hbx hz hL hq hs hE
 go_enter Tryd.func54,Tryd.ntmps54
 by_cases hbig:s>300
 · have d0:decide (s>300)=true:=by simpa using hbig
   have HR:Hid (3=mayTE t):=qq (by rw[HE.out,if_pos (by omega)]);clear hbig;go_wp2_with fail
   refine Hq.out.mono ?_; rintro e w1 ⟨rfl,hb1⟩
   have hb2:=Hbx.out.trans (hb1.mono Hbx.out.size);clear z0 z1 z2 z3 z4 hb1;go_wp2_with fail;go_ret;exact⟨ret_int HR.out,hb2⟩
 · have d0:decide (s>300)=false:=by simpa using hbig
   have hE2:mayTE t=if mayT t then 0 else 2:=by rw[HE.out,if_neg (by omega)]
   have HE2:=qq hE2;clear hbig hE2;go_wp2_with fail
   refine Hq.out.mono ?_; rintro e w1 ⟨rfl,hb1⟩
   have hz1:=Hz.out.below hb1 Hz.out.lt;have hL1:=(HL.out.below hb1).more hb1.size;have hb2:=Hbx.out.trans (hb1.mono Hbx.out.size);clear z0 z1 z2 z3 z4 hb1;have y0:=hz1.cell 0;have y1:=hz1.cell 1;have y2:=hz1.cell 2;have y3:=hz1.cell 3;have y4:=hz1.cell 4;have hf:=blk_new w1 #[.nilFunc] 77;have f0:(w1.alloc (Obj.cells #[.nilFunc] 77)).cell? ⟨w1.heap.size,0,none⟩=some .nilFunc:=hf.cell 0;have f1:(w1.alloc (Obj.cells #[.nilFunc] 77)).frozen? ⟨w1.heap.size,0,none⟩=false:=hf.frozen 0;have hbS:=below_box (w:=w1) (Obj.cells #[.func (.func 81) #[] #[.pointer (some ⟨w1.heap.size,0,none⟩)]] 77);have hgb:=blk_new w1 #[.func (.func 81) #[] #[.pointer (some ⟨w1.heap.size,0,none⟩)]] 77;have hgc:MayCell (w1.alloc (Obj.cells #[.func (.func 81) #[] #[.pointer (some ⟨w1.heap.size,0,none⟩)]] 77)) w1.heap.size:=hgb.cell 0;have g0:(w1.alloc (Obj.cells #[.func (.func 81) #[] #[.pointer (some ⟨w1.heap.size,0,none⟩)]] 77)).cell? ⟨w1.heap.size,0,none⟩=some (.func (.func 81) #[] #[.pointer (some ⟨w1.heap.size,0,none⟩)]):=hgc;have hz3:=hz1.below hbS hz1.lt;have hL3:=(hL1.below hbS).more hbS.size;have q0:=hz3.cell 0;have q1:=hz3.cell 1;have q2:=hz3.cell 2;have q3:=hz3.cell 3;have q4:=hz3.cell 4;have hb4:=hb2.trans (hbS.mono hb2.size);have hq:=may1_go w1.heap.size (nodes t) t (Nat.le_refl _) A m cp _ hL3 hgc;obtain⟨M,hM⟩:∃ M,mayT t=M:=⟨_,rfl⟩;rw[hM] at hq HE2;have Hq2:=qq hq;have Hb4:=qq hb4;clear hq hgc hz3 hL3 hb4 hM hbS hz1 hL1 hb2 hf hgb Hq HL Hz Hbx HE
   cases M with
   | true=>
     have HR:Hid (0=mayTE t):=qq (by rw[HE2.out]; rfl)
     go_wp2_with fail
     refine Hq2.out.mono ?_; rintro e w3 ⟨rfl,hb5⟩
     have hb6:=Hb4.out.trans (hb5.mono Hb4.out.size);clear f0 f1 g0 q0 q1 q2 q3 q4 y0 y1 y2 y3 y4 hb5 Hq2;go_wp2_with fail;go_ret;exact⟨ret_int HR.out,hb6⟩
   | false=>
     have HR:Hid (2=mayTE t):=qq (by rw[HE2.out]; rfl)
     go_wp2_with fail
     refine Hq2.out.mono ?_; rintro e w3 ⟨rfl,hb5⟩
     have hb6:=Hb4.out.trans (hb5.mono Hb4.out.size);clear f0 f1 g0 q0 q1 q2 q3 q4 y0 y1 y2 y3 y4 hb5 Hq2;go_wp2_with fail;go_ret;exact⟨ret_int HR.out,hb6⟩
end Go.Proofs.YtgpeijkjmkocgaaDoor
namespace Go.Proofs.YtgpeijkjmkocgaaDoor
open Go.RowKit
def sameT:TyD→TyD→Bool
 | .mk k n v c l,b=>(k==b.k)&&(n==b.n)&&(v==b.v)&&(c==b.c)&&sameL l b.l
where sameL:List TyD→List TyD→Bool
 | [],[]=>true
 | x :: r,y :: s=>sameT x y&&sameL r s
 | [],_ :: _=>false
 | _ :: _,[]=>false
theorem sameT_eq (a b:TyD):sameT a b=((a.k==b.k)&&(a.n==b.n)&&(a.v==b.v)&&(a.c==b.c)&&sameT.sameL a.l b.l):=by cases a; rw[sameT]; rfl
mutual
theorem sameT_iff:∀ (a b:TyD),sameT a b=true↔a=b
 | .mk k n v c l,.mk k' n' v' c' l'=>by
   rw[sameT];have:=sameL_iff l l';simp only[TyD.k,TyD.n,TyD.v,TyD.c,TyD.l,Bool.and_eq_true,beq_iff_eq,TyD.mk.injEq,this,and_assoc]
theorem sameL_iff:∀ (l m:List TyD),sameT.sameL l m=true↔l=m
 | [],[]=>by simp[sameT.sameL]
 | x :: r,y :: s=>by
   rw[sameT.sameL,Bool.and_eq_true,sameT_iff x y,sameL_iff r s,List.cons.injEq]
 | [],_ :: _=>by simp[sameT.sameL]
 | _ :: _,[]=>by simp[sameT.sameL]
end
theorem sameL_len {l m:List TyD} (h:l.length≠m.length):sameT.sameL l m=false:=by
 rw[Bool.eq_false_iff];intro e;exact h (by rw[(sameL_iff l m).1 e])
theorem sameL_ne {l m:List TyD} {i:Nat} (h1:i<l.length) (h2:i<m.length) (h:sameT l[i] m[i]=false):sameT.sameL l m=false:=by
 rw[Bool.eq_false_iff];intro e;have:=(sameL_iff l m).1 e;subst this;rw[(sameT_iff _ _).2 rfl] at h
 cases h
theorem sameL_all {l m:List TyD} (hl:l.length=m.length) (h:∀ i (h1:i<l.length) (h2:i<m.length),sameT l[i] m[i]=true):sameT.sameL l m=true:=
 (sameL_iff l m).2 (List.ext_getElem hl fun i h1 h2=>(sameT_iff _ _).1 (h i h1 h2))
theorem refSame_go:∀ (N:Nat) (a b:TyD),nodes a≤N→∀ (A:Option Addr) (m cp:Nat) (A':Option Addr) (m' cp':Nat) (w:World),TysV w w.heap.size A m cp a.l→TysV w w.heap.size A' m' cp' b.l →
  Calls Tryd.prog 43 #[.agg #[.int .u8 a.k,.int .i64 a.n,.int .i64 a.v,.int .u8 a.c,.slice A m cp],.agg #[.int .u8 b.k,.int .i64 b.n,.int .i64 b.v,.int .u8 b.c,.slice A' m' cp']] w fun e w'=>e=.returned (.bool (sameT a b))∧Below w.heap.size w w'
 | 0,a,b,hN,A,m,cp,A',m',cp',w,h1,h2=>absurd hN (by rw[nodes_eq a]; omega)
 | N+1,a,b,hN,A,m,cp,A',m',cp',w,h1,h2=>by
   have hl1:=h1.len;have hl2:=h2.len;have m63:m≤9223372036854775807:=Nat.le_trans h1.2.1 h1.2.2.1;have m63':m'≤9223372036854775807:=Nat.le_trans h2.2.1 h2.2.2.1;have hbx:Below w.heap.size w ((w.alloc (Obj.cells #[.int .u8 a.k,.int .i64 a.n,.int .i64 a.v,.int .u8 a.c,.slice A m cp] 63)).alloc (Obj.cells #[.int .u8 b.k,.int .i64 b.n,.int .i64 b.v,.int .u8 b.c,.slice A' m' cp'] 63)):=((Below.refl _ _).alloc (Nat.le_refl _) _).alloc (by simp) _;have hz:=(blk_new w #[.int .u8 a.k,.int .i64 a.n,.int .i64 a.v,.int .u8 a.c,.slice A m cp] 63).alloc (Obj.cells #[.int .u8 b.k,.int .i64 b.n,.int .i64 b.v,.int .u8 b.c,.slice A' m' cp'] 63);have hy:=blk_new (w.alloc (Obj.cells #[.int .u8 a.k,.int .i64 a.n,.int .i64 a.v,.int .u8 a.c,.slice A m cp] 63)) #[.int .u8 b.k,.int .i64 b.n,.int .i64 b.v,.int .u8 b.c,.slice A' m' cp'] 63;rw[World.size_alloc] at hy;obtain⟨W,hW⟩:∃ W,(w.alloc (Obj.cells #[.int .u8 a.k,.int .i64 a.n,.int .i64 a.v,.int .u8 a.c,.slice A m cp] 63)).alloc (Obj.cells #[.int .u8 b.k,.int .i64 b.n,.int .i64 b.v,.int .u8 b.c,.slice A' m' cp'] 63)=W:=⟨_,rfl⟩;rw[hW] at hbx hz hy;have HW:=qq hW;have Hbx:=qq hbx;have Hz:=qq hz;have Hy:=qq hy;have HA:=qq ((h1.below hbx).more hbx.size);have HB:=qq ((h2.below hbx).more hbx.size);have hst:=sameT_eq a b
   have HN:Hid (∀ i (h:i<a.l.length),nodes a.l[i]≤N):=qq fun i h=>by have:=nodes_get h; omega
   clear h1 h2 hbx hz hy hW hN;have x0:=Hz.out.cell 0;have x1:=Hz.out.cell 1;have x2:=Hz.out.cell 2;have x3:=Hz.out.cell 3;have x4:=Hz.out.cell 4;have y0:=Hy.out.cell 0;have y1:=Hy.out.cell 1;have y2:=Hy.out.cell 2;have y3:=Hy.out.cell 3;have y4:=Hy.out.cell 4
   by_cases hk:a.k=b.k
   · have d1:(a.k != b.k)=false:=by simp[hk]
     rw[show(a.k==b.k)=true from by simp[hk]] at hst
     clear hk
     by_cases hn:a.n=b.n
     · have d2:(a.n != b.n)=false:=by simp[hn]
       rw[show(a.n==b.n)=true from by simp[hn]] at hst
       clear hn
       by_cases hv:a.v=b.v
       · have d3:(a.v==b.v)=true:=by simp[hv]
         have d3':(a.v != b.v)=false:=by simp[hv]
         rw[d3] at hst;clear hv
         by_cases hc:a.c=b.c
         · have d4:(a.c==b.c)=true:=by simp[hc]
           have d4':(a.c != b.c)=false:=by simp[hc]
           rw[d4] at hst;clear hc;simp only[Bool.true_and,Bool.and_true] at hst;have Hst:=qq hst;clear hst
           by_cases hm:m=m'
           · subst hm
             have d5:((m:Int) != m)=false:=by simp
             go_enter Tryd.func43,Tryd.ntmps43
             go_wp2_with fail;rw[HW.out];go_wp2_with fail;have Hlz:=qq Hz.out.lt;have Hly:=qq Hy.out.lt;clear x0 x1 x2 x3 x4 y0 y1 y2 y3 y4
             go_loopg [5] m (fun gh i wr=>∃ k:Nat,k≤m∧gh=m - k∧i=.int .i64 k∧(∀ j (h1:j<a.l.length) (h2:j<b.l.length),j<k→sameT a.l[j] b.l[j]=true)∧Below W.heap.size W wr)
             case atStart=>exact⟨0,Nat.zero_le _,rfl,rfl,fun j _ _ h=>absurd h (by omega),Below.refl _ _⟩
             case round=>
              obtain⟨k,hk,rfl,rfl,heq,hbel⟩:=hrel;have Heq:=qq heq;clear heq;have x4:=(Hz.out.below hbel Hlz.out).cell 4;have y4:=(Hy.out.below hbel Hly.out).cell 4
              by_cases hkm:k<m
              · have d6:decide (k<m)=true:=by simpa using hkm
                have hk1:k<a.l.length:=by omega
                have hk2:k<b.l.length:=by omega
                obtain⟨bb,off,rfl,hb,hc⟩:=(HA.out.below hbel).at_ (by omega);obtain⟨bb',off',rfl,hb',hc'⟩:=(HB.out.below hbel).at_ (by omega);obtain⟨e0,e1,e2,e3,Ax,mx,cx,e4,hx⟩:=tyAt_iff.1 (hc k hk1);obtain⟨f0,f1,f2,f3,Ay,my,cy,f4,hy⟩:=tyAt_iff.1 (hc' k hk2);have hn:=HN.out k hk1;obtain⟨P,hP⟩:∃ P,sameT a.l[k] b.l[k]=P:=⟨_,rfl⟩;have HP:=qq hP;obtain⟨x,hxk⟩:∃ x,a.l[k]=x:=⟨_,rfl⟩;obtain⟨y,hyk⟩:∃ y,b.l[k]=y:=⟨_,rfl⟩;rw[hxk] at e0 e1 e2 e3 hx hn hP;rw[hyk] at f0 f1 f2 f3 hy hP
                have hq:∀ d os,Calls Tryd.prog 43 #[.agg #[.int .u8 x.k,.int .i64 x.n,.int .i64 x.v,.int .u8 x.c,.slice Ax mx cx],.agg #[.int .u8 y.k,.int .i64 y.n,.int .i64 y.v,.int .u8 y.c,.slice Ay my cy]] («Sort».grow (redrawn wr d) os) (fun e w'=>e=.returned (.bool P)∧Below («Sort».grow (redrawn wr d) os).heap.size («Sort».grow (redrawn wr d) os) w'):=fun d os=>by
                 rw[← hP];exact refSame_go N x y hn Ax mx cx Ay my cy _ (((hx.more hbel.size).below (below_regrown wr d os)).more (below_regrown wr d os).size) (((hy.more hbel.size).below (below_regrown wr d os)).more (below_regrown wr d os).size)
                replace hq:=qq hq
                have k1:(0:Int)≤(k:Int):=by omega
                have k2:(k:Int)<m:=by omega
                have Hbel:=qq hbel;clear hc hc' hx hy hxk hyk hP hbel hn;go_wp2_with fail;have ke0:=fun d os=>cell_regrown e0 d os;have ke1:=fun d os=>cell_regrown e1 d os;have ke2:=fun d os=>cell_regrown e2 d os;have ke3:=fun d os=>cell_regrown e3 d os;have ke4:=fun d os=>cell_regrown e4 d os;have kf0:=fun d os=>cell_regrown f0 d os;have kf1:=fun d os=>cell_regrown f1 d os;have kf2:=fun d os=>cell_regrown f2 d os;have kf3:=fun d os=>cell_regrown f3 d os;have kf4:=fun d os=>cell_regrown f4 d os;have kx4:=fun d os=>cell_regrown x4 d os;have ky4:=fun d os=>cell_regrown y4 d os;clear e0 e1 e2 e3 e4 f0 f1 f2 f3 f4 x4 y4
                cases P with
                | true=>
                  have heq2:∀ j (h1:j<a.l.length) (h2:j<b.l.length),j<k+1→sameT a.l[j] b.l[j]=true:=fun j h1 h2 hj=>by
                   rcases Nat.lt_or_ge j k with h | h
                   · exact Heq.out j h1 h2 h
                   · have:j=k:=by omega
                     subst this;exact HP.out
                  have Heq2:=qq heq2;clear heq2;refine wp_region_quiet_below (by kernel_rfl) (by kernel_rfl) ?_
                  repeat (go_big_quiet_step ((first | (go_at_call 43; exact Calls.regrown_of (hq.out _ _)))))
                  refine wpQuiet_nil ?_;intro _ hw';obtain⟨⟨dq,osq⟩,hw''⟩:=hw';subst hw'';have Hb2:=qq (Hbel.out.trans ((below_regrown wr dq osq).mono Hbel.out.size));clear ke0 ke1 ke2 ke3 ke4 kf0 kf1 kf2 kf3 kf4 kx4 ky4 hq;go_wp2_with fail;go_roundg (m - (k+1))
                  case measure=>omega
                  case rel=>exact⟨k+1,by omega,rfl,by go_num,Heq2.out,Hb2.out⟩
                | false=>
                  have HR:Hid (false=sameT a b):=qq (by rw[Hst.out]; exact(sameL_ne hk1 hk2 HP.out).symm)
                  refine wp_region_quiet_below (by kernel_rfl) (by kernel_rfl) ?_
                  repeat (go_big_quiet_step ((first | (go_at_call 43; exact Calls.regrown_of (hq.out _ _)))))
                  refine wpQuiet_nil ?_;intro _ hw';obtain⟨⟨dq,osq⟩,hw''⟩:=hw';subst hw'';have Hb2:=qq (Hbx.out.trans ((Hbel.out.trans ((below_regrown wr dq osq).mono Hbel.out.size)).mono Hbx.out.size));clear ke0 ke1 ke2 ke3 ke4 kf0 kf1 kf2 kf3 kf4 kx4 ky4 hq;go_wp2_with fail;go_ret;exact⟨ret_bool HR.out,Hb2.out⟩
              · have d6:decide (k<m)=false:=by simpa using hkm
                have HR:Hid (true=sameT a b):=qq (by rw[Hst.out]; exact(sameL_all (by omega) fun i h1 h2=>Heq.out i h1 h2 (by omega)).symm)
                have Hb:=qq (Hbx.out.trans (hbel.mono Hbx.out.size));clear hbel;go_wp2_with fail;go_ret;exact⟨ret_bool HR.out,Hb.out⟩
           · have d5:((m:Int) != m')=true:=by simp; omega
             have HR:Hid (false=sameT a b):=qq (by rw[Hst.out]; exact(sameL_len (by omega)).symm)
             go_enter Tryd.func43,Tryd.ntmps43
             go_wp2_with fail;rw[HW.out];go_wp2_with fail;go_ret;exact⟨ret_bool HR.out,Hbx.out⟩
         · have d4:(a.c==b.c)=false:=by simp[hc]
           have d4':(a.c != b.c)=true:=by simp[hc]
           rw[d4] at hst;clear hc
           have HR:Hid (false=sameT a b):=qq (by rw[hst]; rfl)
           clear hst
           go_enter Tryd.func43,Tryd.ntmps43
           go_wp2_with fail;rw[HW.out];go_wp2_with fail;go_ret;exact⟨ret_bool HR.out,Hbx.out⟩
       · have d3:(a.v==b.v)=false:=by simp[hv]
         have d3':(a.v != b.v)=true:=by simp[hv]
         rw[d3] at hst;clear hv
         have HR:Hid (false=sameT a b):=qq (by rw[hst]; rfl)
         clear hst
         go_enter Tryd.func43,Tryd.ntmps43
         go_wp2_with fail;rw[HW.out];go_wp2_with fail;go_ret;exact⟨ret_bool HR.out,Hbx.out⟩
     · have d2:(a.n != b.n)=true:=by simp[hn]
       rw[show(a.n==b.n)=false from by simp[hn]] at hst
       clear hn
       have HR:Hid (false=sameT a b):=qq (by rw[hst]; rfl)
       clear hst
       go_enter Tryd.func43,Tryd.ntmps43
       go_wp2_with fail;rw[HW.out];go_wp2_with fail;go_ret;exact⟨ret_bool HR.out,Hbx.out⟩
   · have d1:(a.k != b.k)=true:=by simp[hk]
     rw[show(a.k==b.k)=false from by simp[hk]] at hst
     clear hk
     have HR:Hid (false=sameT a b):=qq (by rw[hst]; rfl)
     clear hst
     go_enter Tryd.func43,Tryd.ntmps43
     go_wp2_with fail;rw[HW.out];go_wp2_with fail;go_ret;exact⟨ret_bool HR.out,Hbx.out⟩
mutual
def TyIn (w:World) (S:Nat→Prop):TyD→Nat→Nat→Prop
 | .mk k n v c l,b,off=>w.cell? ⟨b,off,none⟩=some (.int .u8 k)∧w.cell? ⟨b,off+1,none⟩=some (.int .i64 n)∧w.cell? ⟨b,off+2,none⟩=some (.int .i64 v)∧w.cell? ⟨b,off+3,none⟩=some (.int .u8 c) ∧
   ∃ A m cp,w.cell? ⟨b,off+4,none⟩=some (.slice A m cp)∧l.length=m∧m≤cp∧cp≤maxLen∧(0<m→∃ b' off',A=some ⟨b',off',none⟩∧S b'∧RowIn w S l b' off')
def RowIn (w:World) (S:Nat→Prop):List TyD→Nat→Nat→Prop
 | [],_,_=>True
 | t :: r,b,off=>TyIn w S t b off∧RowIn w S r b (off+5)
end
def TysS (w:World) (S:Nat→Prop) (A:Option Addr) (m cp:Nat) (l:List TyD):Prop:=
 l.length=m∧m≤cp∧cp≤maxLen∧(0<m→∃ b off,A=some ⟨b,off,none⟩∧S b∧RowIn w S l b off)
theorem tyIn_iff {w:World} {S:Nat→Prop} {t:TyD} {b off:Nat}:TyIn w S t b off↔w.cell? ⟨b,off,none⟩=some (.int .u8 t.k)∧w.cell? ⟨b,off+1,none⟩=some (.int .i64 t.n)∧w.cell? ⟨b,off+2,none⟩=some (.int .i64 t.v)∧w.cell? ⟨b,off+3,none⟩=some (.int .u8 t.c) ∧
  ∃ A m cp,w.cell? ⟨b,off+4,none⟩=some (.slice A m cp)∧TysS w S A m cp t.l:=by
 cases t
 rw[TyIn];exact Iff.rfl
mutual
theorem TyIn.keep {w w':World} {S S':Nat→Prop} (hS:∀ b,S b→S' b) (hk:∀ p:Addr,S p.block→w'.cell? p=w.cell? p):∀ (t:TyD) (b off:Nat),S b→TyIn w S t b off→TyIn w' S' t b off
 | .mk k n v c l,b,off,hb,h=>by
   rw[TyIn] at h ⊢;obtain⟨h0,h1,h2,h3,A,m,cp,h4,e1,e2,e3,e4⟩:=h;refine⟨(hk _ hb).trans h0,(hk _ hb).trans h1,(hk _ hb).trans h2,(hk _ hb).trans h3,A,m,cp,(hk _ hb).trans h4,e1,e2,e3,fun hm=>?_⟩;obtain⟨b',off',e,hb',hr⟩:=e4 hm;exact⟨b',off',e,hS _ hb',RowIn.keep hS hk l b' off' hb' hr⟩
theorem RowIn.keep {w w':World} {S S':Nat→Prop} (hS:∀ b,S b→S' b) (hk:∀ p:Addr,S p.block→w'.cell? p=w.cell? p):∀ (l:List TyD) (b off:Nat),S b→RowIn w S l b off→RowIn w' S' l b off
 | [],_,_,_,_=>by rw[RowIn]; trivial
 | t :: r,b,off,hb,h=>by
   rw[RowIn] at h ⊢;exact⟨TyIn.keep hS hk t b off hb h.1,RowIn.keep hS hk r b (off+5) hb h.2⟩
end
theorem RowIn.get {w:World} {S:Nat→Prop}:∀ {l:List TyD} {b off:Nat},RowIn w S l b off→∀ i (h:i<l.length),TyIn w S l[i] b (off+i * 5)
 | t :: r,b,off,h,0,_=>by
   rw[RowIn] at h;rw[Nat.zero_mul,Nat.add_zero];exact h.1
 | t :: r,b,off,h,i+1,hi=>by
   rw[RowIn] at h;have:=RowIn.get h.2 i (by simpa using hi)
   rw[show off+(i+1) * 5=off+5+i * 5 from by omega]
   exact this
theorem RowIn.of {w:World} {S:Nat→Prop}:∀ {l:List TyD} {b off:Nat},(∀ i (h:i<l.length),TyIn w S l[i] b (off+i * 5))→RowIn w S l b off
 | [],_,_,_=>by rw[RowIn]; trivial
 | t :: r,b,off,h=>by
   rw[RowIn];have h0:=h 0 (by simp);rw[Nat.zero_mul,Nat.add_zero] at h0;refine⟨h0,RowIn.of fun i hi=>?_⟩;have:=h (i+1) (by simpa using hi)
   rw[show off+(i+1) * 5=off+5+i * 5 from by omega] at this
   exact this
mutual
theorem tyIn_lt {w:World} {B:Nat}:∀ (t:TyD) (b off:Nat),TyIn w (fun b=>b<B) t b off↔TyAt w B t b off
 | .mk k n v c l,b,off=>by
   rw[TyIn,TyAt];have h:=fun b' off'=>rowIn_lt (w:=w) (B:=B) l b' off';simp only[h]
theorem rowIn_lt {w:World} {B:Nat}:∀ (l:List TyD) (b off:Nat),RowIn w (fun b=>b<B) l b off↔TyRow w B l b off
 | [],_,_=>by rw[RowIn,TyRow]
 | t :: r,b,off=>by rw[RowIn,TyRow,tyIn_lt t b off,rowIn_lt r b (off+5)]
end
section
variable {w w':World} {S S':Nat→Prop} {A:Option Addr} {m cp B:Nat} {l:List TyD}
theorem TysS.keep (h:TysS w S A m cp l) (hS:∀ b,S b→S' b) (hk:∀ p:Addr,S p.block→w'.cell? p=w.cell? p):TysS w' S' A m cp l:=by
 obtain⟨h1,h2,h3,h4⟩:=h;refine⟨h1,h2,h3,fun hm=>?_⟩;obtain⟨b,off,e,hb,hr⟩:=h4 hm;exact⟨b,off,e,hS _ hb,RowIn.keep hS hk l b off hb hr⟩
theorem TysS.mono (h:TysS w S A m cp l) (hS:∀ b,S b→S' b):TysS w S' A m cp l:=h.keep hS fun _ _=>rfl
theorem tysS_lt:TysS w (fun b=>b<B) A m cp l↔TysV w B A m cp l:=by
 unfold TysS TysV;simp only[rowIn_lt]
theorem TysS.lt (h:TysS w S A m cp l) (hS:∀ b,S b→b<B):TysV w B A m cp l:=tysS_lt.1 (h.mono hS)
theorem TysV.in_ (h:TysV w B A m cp l):TysS w (fun b=>b<B) A m cp l:=tysS_lt.2 h
theorem TysS.len (h:TysS w S A m cp l):l.length=m:=h.1
theorem TysS.nil:TysS w S none 0 0 []:=⟨rfl,Nat.le_refl _,Nat.zero_le _,fun h=>absurd h (by omega)⟩
theorem TysS.at_ (h:TysS w S A m cp l) (hm:0<m):∃ b off,A=some ⟨b,off,none⟩∧S b∧∀ i (h:i<l.length),TyIn w S l[i] b (off+i * 5):=by
 obtain⟨b,off,e,hb,hr⟩:=h.2.2.2 hm;exact⟨b,off,e,hb,hr.get⟩
end
def encT:TyD→List Cel
 | .mk k n v c l=>[.v (.int .u8 k),.v (.int .i64 n),.v (.int .i64 v),.v (.int .u8 c),.s 5 (encL l)]
where encL:List TyD→List Cel
 | []=>[]
 | t :: r=>encT t++encL r
theorem encL_flat (l:List TyD):encT.encL l=l.flatMap encT:=by
 induction l with
 | nil=>rfl
 | cons t r ih=>rw[encT.encL,ih,List.flatMap_cons]
theorem encT_eq (t:TyD):encT t=[.v (.int .u8 t.k),.v (.int .i64 t.n),.v (.int .i64 t.v),.v (.int .u8 t.c),.s 5 (t.l.flatMap encT)]:=by
 cases t; rw[encT,encL_flat]; rfl
theorem encT_len (t:TyD):(encT t).length=5:=by rw[encT_eq]; rfl
theorem encL_len (l:List TyD):(encT.encL l).length=l.length * 5:=by rw[encL_flat,flat_len encT_len]
mutual
theorem tyIn_cels {w:World} {S:Nat→Prop}:∀ (t:TyD) (b off:Nat),TyIn w S t b off↔CelsIn w S (encT t) b off
 | .mk k n v c l,b,off=>by
   rw[TyIn,encT];simp only[celsIn_cons,celIn_v,celIn_s,encL_len,celsIn_nil,and_true];have h:=fun b' off'=>rowIn_cels (w:=w) (S:=S) l b' off'
   have e:∀ m:Nat,l.length * 5=m * 5↔l.length=m:=fun m=>by omega
   simp only[h,e]
   constructor
   · rintro⟨h0,h1,h2,h3,A,m,cp,h4,h5⟩
     exact⟨⟨_,h0,rfl⟩,⟨_,h1,rfl⟩,⟨_,h2,rfl⟩,⟨_,h3,rfl⟩,_,h4,A,m,cp,rfl,h5⟩
   · rintro⟨⟨_,h0,rfl⟩,⟨_,h1,rfl⟩,⟨_,h2,rfl⟩,⟨_,h3,rfl⟩,_,h4,A,m,cp,rfl,h5⟩
     exact⟨h0,h1,h2,h3,A,m,cp,h4,h5⟩
theorem rowIn_cels {w:World} {S:Nat→Prop}:∀ (l:List TyD) (b off:Nat),RowIn w S l b off↔CelsIn w S (encT.encL l) b off
 | [],_,_=>by rw[RowIn,encT.encL]; exact⟨fun _=>celsIn_nil,fun _=>trivial⟩
 | t :: r,b,off=>by
   rw[RowIn,encT.encL,CelsIn.append,encT_len,tyIn_cels t b off,rowIn_cels r b (off+5)]
end
theorem tysS_sl {w:World} {S:Nat→Prop} {A:Option Addr} {m cp:Nat} {l:List TyD}:TysS w S A m cp l↔Sl w S encT 5 l A m cp:=by
 unfold TysS Sl;simp only[rowIn_cels,encL_flat]
theorem tysV_sl {w:World} {B:Nat} {A:Option Addr} {m cp:Nat} {l:List TyD}:TysV w B A m cp l↔Sl w (Lt B) encT 5 l A m cp:=by
 rw[← tysS_lt,tysS_sl]
theorem tyC {w:World} {S:Nat→Prop} {t:TyD} {A:Option Addr} {m cp:Nat} (h:TysS w S A m cp t.l):CelsV w S (encT t) [.int .u8 t.k,.int .i64 t.n,.int .i64 t.v,.int .u8 t.c,.slice A m cp]:=by
 rw[encT_eq];exact⟨celIn_v.2 rfl,celIn_v.2 rfl,celIn_v.2 rfl,celIn_v.2 rfl,(sl_iff encT_len (by omega)).2 ⟨A,m,cp,rfl,tysS_sl.1 h⟩,trivial⟩
theorem typeInfo:(Tryd.prog.info? 63).map (fun i=>(i.zero,i.size,i.bytes))=some (some (.agg #[.int .u8 0,.int .i64 0,.int .i64 0,.int .u8 0,.slice none 0 0]),5,56):=by kernel_rfl
def cloneRenT:Go.Shelf.Ren:=⟨fun | 41=>107 | n=>n,fun | 22=>56 | 23=>63 | 4=>4 | n=>n,fun | n=>n⟩
theorem cloneLaysT:Go.Proofs.SlLaysE0.n41 Tryd.prog cloneRenT := {
 mixed:=by kernel_rfl
 f41:=⟨Tryd.f107.name,by decide,Tryd.func107.trans (congrArg some (by kernel_rfl))⟩
 t4:=Tryd.underlying4
 a4:=Tryd.isAgg4
 z4:=Tryd.sizeOf4
 v4:=Tryd.zeroValue4
 t22:=Tryd.underlying56
 a22:=Tryd.isAgg56
 z22:=Tryd.sizeOf56
 v22:=Tryd.zeroValue56 }
def C5 (w:World) (S:Nat→Prop) (cs:List Value) (x:Nat) (t:TyD):Prop:=
 ∃ A n c,cs[x * 5]?=some (.int .u8 t.k)∧cs[x * 5+1]?=some (.int .i64 t.n)∧cs[x * 5+2]?=some (.int .i64 t.v)∧cs[x * 5+3]?=some (.int .u8 t.c)∧cs[x * 5+4]?=some (.slice A n c)∧TysS w S A n c t.l
theorem C5.keep {w w':World} {S S':Nat→Prop} {cs:List Value} {x:Nat} {t:TyD} (h:C5 w S cs x t) (hS:∀ b,S b→S' b) (hk:∀ p:Addr,S p.block→w'.cell? p=w.cell? p):C5 w' S' cs x t:=by
 obtain⟨A,n,c,e0,e1,e2,e3,e4,hr⟩:=h;exact⟨A,n,c,e0,e1,e2,e3,e4,hr.keep hS hk⟩
theorem C5.congr {w:World} {S:Nat→Prop} {cs cs':List Value} {x:Nat} {t:TyD} (h:C5 w S cs x t) (he:∀ k,x * 5≤k→k<x * 5+5→cs'[k]?=cs[k]?):C5 w S cs' x t:=by
 obtain⟨A,n,c,e0,e1,e2,e3,e4,hr⟩:=h
 exact⟨A,n,c,by rw[he _ (by omega) (by omega)]; exact e0,by rw[he _ (by omega) (by omega)]; exact e1,by rw[he _ (by omega) (by omega)]; exact e2,by rw[he _ (by omega) (by omega)]; exact e3,by rw[he _ (by omega) (by omega)]; exact e4,hr⟩
theorem C5.cells {w:World} {S:Nat→Prop} {base:Nat} {e:TypeId} {g n c:Nat} {cs:List Value} {x:Nat} {t:TyD} (h:C5 w S cs x t) (hown:w.ownsRow base e 5 (.slice (some ⟨g,0,none⟩) n c) n cs) (hx:x<n):TyIn w S t g (0+x * 5):=by
 obtain⟨A,m,d,e0,e1,e2,e3,e4,hr⟩:=h;rw[Nat.zero_add]
 exact tyIn_iff.2 ⟨by rw[hown.cellAt _ (by omega)]; exact e0,by rw[hown.cellAt _ (by omega)]; exact e1,by rw[hown.cellAt _ (by omega)]; exact e2,by rw[hown.cellAt _ (by omega)]; exact e3,A,m,d,by rw[hown.cellAt _ (by omega)]; exact e4,hr⟩
theorem TysV.cells {w:World} {B:Nat} {b off:Nat}:∀ (m:Nat) (ts:List TyD),m≤ts.length→(∀ i (h:i<ts.length),TyAt w B ts[i] b (off+i * 5)) →
  ∃ cs:List Value,cs.length=m * 5∧(∀ j u,cs[j]?=some u→w.cell? ⟨b,off+j,none⟩=some u)∧(∀ u∈cs,u.oneCell'=true)∧∀ i (h:i<ts.length),i<m→C5 w (fun b=>b<B) cs i ts[i]
 | 0,ts,_,_=>⟨[],rfl,fun j u h=>by simp at h,fun u h=>by simp at h,fun i _ h=>absurd h (by omega)⟩
 | m+1,ts,hm,hat=>by
   obtain⟨cs,hl,hc,h1,h3⟩:=TysV.cells m ts (by omega) hat;obtain⟨e0,e1,e2,e3,A,n,c,e4,hr⟩:=tyAt_iff.1 (hat m (by omega))
   refine⟨cs++[.int .u8 ts[m].k,.int .i64 ts[m].n,.int .i64 ts[m].v,.int .u8 ts[m].c,.slice A n c],by simp[hl]; omega,fun j u hu=>?_,fun u hu=>?_,fun i hi him=>?_⟩
   · rw[List.getElem?_append] at hu
     split at hu
     · exact hc j u hu
     · rename_i hj
       have hj3:j - cs.length<5:=by
        have:=(List.getElem?_eq_some_iff.1 hu).1
        simpa using this
       have:j=m * 5∨j=m * 5+1∨j=m * 5+2∨j=m * 5+3∨j=m * 5+4:=by omega
       rcases this with rfl | rfl | rfl | rfl | rfl
       · rw[hl,Nat.sub_self] at hu
         simp at hu
         rw[← hu]; exact e0
       · rw[hl,show m * 5+1 - m * 5=1 from by omega] at hu
         simp at hu
         rw[← hu,show off+(m * 5+1)=off+m * 5+1 from by omega]; exact e1
       · rw[hl,show m * 5+2 - m * 5=2 from by omega] at hu
         simp at hu
         rw[← hu,show off+(m * 5+2)=off+m * 5+2 from by omega]; exact e2
       · rw[hl,show m * 5+3 - m * 5=3 from by omega] at hu
         simp at hu
         rw[← hu,show off+(m * 5+3)=off+m * 5+3 from by omega]; exact e3
       · rw[hl,show m * 5+4 - m * 5=4 from by omega] at hu
         simp at hu
         rw[← hu,show off+(m * 5+4)=off+m * 5+4 from by omega]; exact e4
   · simp only[List.mem_append,qk,List.not_mem_nil,or_false] at hu
     rcases hu with hu | rfl | rfl | rfl | rfl | rfl
     · exact h1 u hu
     · rfl
     · rfl
     · rfl
     · rfl
     · rfl
   · rcases Nat.lt_or_ge i m with h | h
     · exact(h3 i hi h).congr fun k h4 h5=>List.getElem?_append_left (by omega)
     · have:i=m:=by omega
       subst this;refine⟨A,n,c,?_,?_,?_,?_,?_,hr.in_⟩
       · rw[List.getElem?_append_right (by omega),hl,Nat.sub_self]; rfl
       · rw[List.getElem?_append_right (by omega),hl,show i * 5+1 - i * 5=1 from by omega]; rfl
       · rw[List.getElem?_append_right (by omega),hl,show i * 5+2 - i * 5=2 from by omega]; rfl
       · rw[List.getElem?_append_right (by omega),hl,show i * 5+3 - i * 5=3 from by omega]; rfl
       · rw[List.getElem?_append_right (by omega),hl,show i * 5+4 - i * 5=4 from by omega]; rfl
def OwnTy (w:World) (base:Nat) (v:Value) (n:Nat) (ts:List TyD) (S:Nat→Nat→Prop):Prop:=
 ts.length=n∧∃ cs,w.ownsRow base 63 5 v n cs∧∀ i (h:i<ts.length),C5 w (S i) cs i ts[i]
def CloneTy (ts:List TyD) (n:Nat) (w:World) (e:Ending) (w':World):Prop:=
 ∃ v,e=.returned v∧OwnTy w' w.heap.size v n ts (fun _ b=>b<w.heap.size)∧(v=.slice none 0 0∨∃ g c,v=.slice (some ⟨g,0,none⟩) n c)∧Below w.heap.size w w'
theorem cloneTy_zero (a:Addr) (c:Nat) (w:World):
  Calls Tryd.prog 107 #[.slice (some a) 0 c] w (CloneTy [] 0 w):=by
 obtain⟨i0,hi0,hz0,hz1,hz2⟩:=info_parts typeInfo;have hq:=fun w a n c n' c'=>Lib.run_eql_slice_nil (P:=Tryd.prog) w 56 63 a n c n' c' Tryd.underlying56
 go_enter Tryd.func107,Tryd.ntmps107
 go_wp2_with (at_builtin; refine wpList_append_own _ rfl _ _ 56 rfl w.heap.size 63 i0 _ 5 56 Tryd.underlying56 hi0 hz0 hz1 hz2 rfl (by omega) _ 0 [] rfl (World.ownsRow_lit w #[] 0 (Nat.le_refl _) (Nat.zero_le _) rfl) a 0 c [] rfl rfl (fun j u h=>by simp at h) (fun u h=>by simp at h) (Nat.zero_le _) (by omega) (by simp) ?_; intro v1 w1 hown1 hg1 hnil)
 go_ret
 refine⟨v1,rfl,⟨rfl,[],hown1,fun i h=>absurd h (by simp)⟩,?_,((Below.refl _ _).alloc (Nat.le_refl _) _).grown hg1 (by simp) (fun k hk=>by have hk':some w.heap.size=some k:=hk; injection hk' with h; omega)⟩
 rcases hown1.2 with ⟨e0,_⟩ | ⟨g,cap,cur,rfl,_⟩
 · exact .inl e0
 · exact .inr ⟨g,cap,rfl⟩
theorem cloneTy_any (A:Option Addr) (n c:Nat) (ts:List TyD) (w:World) (hr:TysV w w.heap.size A n c ts) (hbig:n * 56≤140737488355328):
  Calls Tryd.prog 107 #[.slice A n c] w (CloneTy ts n w):=by
 have hat:=hr.at_;obtain⟨hlen,hnc,hcm,hat0⟩:=hr
 rcases A with _ | ⟨b,off,sp⟩
 · have hn:n=0:=by
    rcases Nat.eq_zero_or_pos n with h | h
    · exact h
    · obtain⟨_,_,e,_⟩:=hat h
      cases e
   subst hn;have hts:ts=[]:=List.eq_nil_of_length_eq_zero hlen;subst hts;refine(AnyE.slices_Clone_nil cloneLaysT 0 c w).mono ?_;rintro e w1 ⟨rfl,rfl⟩;exact⟨_,rfl,⟨rfl,[],World.ownsRow_nil _ _ _ _,fun i h=>absurd h (by simp)⟩,.inl rfl,Below.refl _ _⟩
 · obtain⟨i0,hi0,hz0,hz1,hz2⟩:=info_parts typeInfo
   rcases Nat.eq_zero_or_pos n with h0 | h0
   · subst h0
     have hts:ts=[]:=List.eq_nil_of_length_eq_zero hlen;subst hts;exact cloneTy_zero _ c w
   · obtain⟨b',off',e,hb,hcell⟩:=hat h0
     injection e with e
     injection e with e1 e2 e3
     subst e1; subst e2; subst e3
     obtain⟨cs,hl,hc,h1,h3⟩:=TysV.cells n ts (by omega) hcell;refine(AnyE.slices_Clone cloneLaysT i0 _ 5 56 hi0 hz0 hz1 hz2 rfl (by omega) Tryd.sizeOf63 b off n c cs w hl (Nat.le_trans hnc hcm) hbig hc h1).mono ?_;rintro e w1 ⟨v',rfl,hown,hne,hb1⟩;refine⟨v',rfl,⟨hlen,cs,hown,fun i hi=>(h3 i hi (by omega)).keep (fun _ h=>h) fun q hq=>hb1.cell hq⟩,.inr ?_,hb1⟩
     rcases hown.2 with ⟨e0,_⟩ | ⟨g,cap,cur,rfl,_⟩
     · exact absurd e0 hne
     · exact⟨g,cap,rfl⟩
end Go.Proofs.YtgpeijkjmkocgaaDoor
