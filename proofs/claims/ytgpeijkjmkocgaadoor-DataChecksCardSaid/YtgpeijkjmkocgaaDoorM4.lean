import Derived.Test.YtgpeijkjmkocgaaDoorM3
import Derived.IntWalk
import Derived.BigQuiet
import Derived.Lib.QuietBelow
import Derived.Deep.QuietTactic
set_option linter.unusedVariables false
set_option linter.unusedSimpArgs false
set_option maxHeartbeats 4000000
set_option maxRecDepth 100000
namespace Go.Proofs.YtgpeijkjmkocgaaDoor
open Go.RowKit
inductive TyD where
 | mk (k n v c:Int) (l:List TyD)
namespace TyD
def k:TyD→Int | mk k _ _ _ _=>k
def n:TyD→Int | mk _ n _ _ _=>n
def v:TyD→Int | mk _ _ v _ _=>v
def c:TyD→Int | mk _ _ _ c _=>c
def l:TyD→List TyD | mk _ _ _ _ l=>l
theorem eta (t:TyD):t=mk t.k t.n t.v t.c t.l:=by cases t; rfl
end TyD
instance:Inhabited TyD:=⟨.mk 0 0 0 0 []⟩
mutual
def TyAt (w:World) (B:Nat):TyD→Nat→Nat→Prop
 | .mk k n v c l,b,off=>w.cell? ⟨b,off,none⟩=some (.int .u8 k)∧w.cell? ⟨b,off+1,none⟩=some (.int .i64 n)∧w.cell? ⟨b,off+2,none⟩=some (.int .i64 v)∧w.cell? ⟨b,off+3,none⟩=some (.int .u8 c) ∧
   ∃ A m cp,w.cell? ⟨b,off+4,none⟩=some (.slice A m cp)∧l.length=m∧m≤cp∧cp≤maxLen∧(0<m→∃ b' off',A=some ⟨b',off',none⟩∧b'<B∧TyRow w B l b' off')
def TyRow (w:World) (B:Nat):List TyD→Nat→Nat→Prop
 | [],_,_=>True
 | t :: r,b,off=>TyAt w B t b off∧TyRow w B r b (off+5)
end
def TysV (w:World) (B:Nat) (A:Option Addr) (m cp:Nat) (l:List TyD):Prop:=
 l.length=m∧m≤cp∧cp≤maxLen∧(0<m→∃ b off,A=some ⟨b,off,none⟩∧b<B∧TyRow w B l b off)
theorem tyAt_iff {w:World} {B:Nat} {t:TyD} {b off:Nat}:TyAt w B t b off↔w.cell? ⟨b,off,none⟩=some (.int .u8 t.k)∧w.cell? ⟨b,off+1,none⟩=some (.int .i64 t.n)∧w.cell? ⟨b,off+2,none⟩=some (.int .i64 t.v)∧w.cell? ⟨b,off+3,none⟩=some (.int .u8 t.c) ∧
  ∃ A m cp,w.cell? ⟨b,off+4,none⟩=some (.slice A m cp)∧TysV w B A m cp t.l:=by
 cases t
 rw[TyAt];exact Iff.rfl
mutual
theorem TyAt.keep {w w':World} {B:Nat} (hk:∀ p:Addr,p.block<B→w'.cell? p=w.cell? p):∀ (t:TyD) (b off:Nat),b<B→TyAt w B t b off→TyAt w' B t b off
 | .mk k n v c l,b,off,hb,h=>by
   rw[TyAt] at h ⊢;obtain⟨h0,h1,h2,h3,A,m,cp,h4,e1,e2,e3,e4⟩:=h;refine⟨(hk _ hb).trans h0,(hk _ hb).trans h1,(hk _ hb).trans h2,(hk _ hb).trans h3,A,m,cp,(hk _ hb).trans h4,e1,e2,e3,fun hm=>?_⟩;obtain⟨b',off',e,hb',hr⟩:=e4 hm;exact⟨b',off',e,hb',TyRow.keep hk l b' off' hb' hr⟩
theorem TyRow.keep {w w':World} {B:Nat} (hk:∀ p:Addr,p.block<B→w'.cell? p=w.cell? p):∀ (l:List TyD) (b off:Nat),b<B→TyRow w B l b off→TyRow w' B l b off
 | [],_,_,_,_=>by rw[TyRow]; trivial
 | t :: r,b,off,hb,h=>by
   rw[TyRow] at h ⊢;exact⟨TyAt.keep hk t b off hb h.1,TyRow.keep hk r b (off+5) hb h.2⟩
end
mutual
theorem TyAt.more {w:World} {B B':Nat} (hB:B≤B'):∀ (t:TyD) (b off:Nat),TyAt w B t b off→TyAt w B' t b off
 | .mk k n v c l,b,off,h=>by
   rw[TyAt] at h ⊢;obtain⟨h0,h1,h2,h3,A,m,cp,h4,e1,e2,e3,e4⟩:=h;refine⟨h0,h1,h2,h3,A,m,cp,h4,e1,e2,e3,fun hm=>?_⟩;obtain⟨b',off',e,hb',hr⟩:=e4 hm
   exact⟨b',off',e,by omega,TyRow.more hB l b' off' hr⟩
theorem TyRow.more {w:World} {B B':Nat} (hB:B≤B'):∀ (l:List TyD) (b off:Nat),TyRow w B l b off→TyRow w B' l b off
 | [],_,_,_=>by rw[TyRow]; trivial
 | t :: r,b,off,h=>by
   rw[TyRow] at h ⊢;exact⟨TyAt.more hB t b off h.1,TyRow.more hB r b (off+5) h.2⟩
end
theorem TyRow.get {w:World} {B:Nat}:∀ {l:List TyD} {b off:Nat},TyRow w B l b off→∀ i (h:i<l.length),TyAt w B l[i] b (off+i * 5)
 | t :: r,b,off,h,0,_=>by
   rw[TyRow] at h;rw[Nat.zero_mul,Nat.add_zero];exact h.1
 | t :: r,b,off,h,i+1,hi=>by
   rw[TyRow] at h;have:=TyRow.get h.2 i (by simpa using hi)
   rw[show off+(i+1) * 5=off+5+i * 5 from by omega]
   exact this
theorem TyRow.of {w:World} {B:Nat}:∀ {l:List TyD} {b off:Nat},(∀ i (h:i<l.length),TyAt w B l[i] b (off+i * 5))→TyRow w B l b off
 | [],_,_,_=>by rw[TyRow]; trivial
 | t :: r,b,off,h=>by
   rw[TyRow];have h0:=h 0 (by simp);rw[Nat.zero_mul,Nat.add_zero] at h0;refine⟨h0,TyRow.of fun i hi=>?_⟩;have:=h (i+1) (by simpa using hi)
   rw[show off+(i+1) * 5=off+5+i * 5 from by omega] at this
   exact this
section
variable {w w':World} {B B':Nat} {A:Option Addr} {m cp:Nat} {l:List TyD}
theorem TysV.keep (h:TysV w B A m cp l) (hk:∀ p:Addr,p.block<B→w'.cell? p=w.cell? p):TysV w' B A m cp l:=by
 obtain⟨h1,h2,h3,h4⟩:=h;refine⟨h1,h2,h3,fun hm=>?_⟩;obtain⟨b,off,e,hb,hr⟩:=h4 hm;exact⟨b,off,e,hb,TyRow.keep hk l b off hb hr⟩
theorem TysV.more (h:TysV w B A m cp l) (hB:B≤B'):TysV w B' A m cp l:=by
 obtain⟨h1,h2,h3,h4⟩:=h;refine⟨h1,h2,h3,fun hm=>?_⟩;obtain⟨b,off,e,hb,hr⟩:=h4 hm
 exact⟨b,off,e,by omega,TyRow.more hB l b off hr⟩
theorem TysV.below (h:TysV w B A m cp l) (hb:Below B w w'):TysV w' B A m cp l:=h.keep fun _ hp=>hb.cell hp
theorem TysV.len (h:TysV w B A m cp l):l.length=m:=h.1
theorem TysV.nil:TysV w B none 0 0 []:=⟨rfl,Nat.le_refl _,Nat.zero_le _,fun h=>absurd h (by omega)⟩
theorem TysV.at_ (h:TysV w B A m cp l) (hm:0<m):∃ b off,A=some ⟨b,off,none⟩∧b<B∧∀ i (h:i<l.length),TyAt w B l[i] b (off+i * 5):=by
 obtain⟨b,off,e,hb,hr⟩:=h.2.2.2 hm;exact⟨b,off,e,hb,hr.get⟩
end
def TyV (w:World) (B:Nat) (x:Value) (t:TyD):Prop:=∃ A m cp,x=.agg #[.int .u8 t.k,.int .i64 t.n,.int .i64 t.v,.int .u8 t.c,.slice A m cp]∧TysV w B A m cp t.l
def nodes:TyD→Nat
 | .mk _ _ _ _ l=>1+nodesL l
where nodesL:List TyD→Nat
 | []=>0
 | t :: r=>nodes t+nodesL r
theorem nodes_eq (t:TyD):nodes t=1+nodes.nodesL t.l:=by cases t; rw[nodes]; rfl
theorem nodesL_snoc (l:List TyD) (t:TyD):nodes.nodesL (l++[t])=nodes.nodesL l+nodes t:=by
 induction l with
 | nil=>simp[nodes.nodesL]
 | cons x l ih=>simp only[List.cons_append,nodes.nodesL,ih]; omega
theorem nodes_mem {l:List TyD} {t:TyD} (h:t∈l):nodes t≤nodes.nodesL l:=by
 induction l with
 | nil=>simp at h
 | cons x l ih=>
   rw[nodes.nodesL]
   rcases qk.1 h with rfl | h
   · omega
   · have:=ih h; omega
theorem nodes_get {t:TyD} {i:Nat} (h:i<t.l.length):nodes t.l[i]<nodes t:=by
 have:=nodes_mem (List.getElem_mem h);rw[nodes_eq t];omega
end Go.Proofs.YtgpeijkjmkocgaaDoor
namespace Go.Proofs.YtgpeijkjmkocgaaDoor
open Go.RowKit
theorem wrap_add (a b:Int):wrap64 (wrap64 a+wrap64 b)=wrap64 (a+b):=by
 rw[← IntWalk.i64_left,← IntWalk.i64_left,← IntWalk.i64_left,← IntWalk.i64_left];simp only[IntKind.wrap_i64];omega
def sizeW (t:TyD):Int:=wrap64 (nodes t)
def sizeLW (l:List TyD):Int:=wrap64 (1+nodes.nodesL l)
theorem sizeLW_snoc (l:List TyD) (t:TyD):wrap64 (sizeLW l+sizeW t)=sizeLW (l++[t]):=by
 unfold sizeLW sizeW;rw[wrap_add,nodesL_snoc]
 congr 1
 push_cast
 omega
theorem sizeLW_nil:sizeLW []=1:=by unfold sizeLW nodes.nodesL; decide +kernel
theorem sizeLW_all (t:TyD):sizeLW t.l=sizeW t:=by unfold sizeLW sizeW; rw[nodes_eq t]; congr 1
theorem size_go:∀ (N:Nat) (t:TyD),nodes t≤N→∀ (x:Value) (w:World),TyV w w.heap.size x t →
  Calls Tryd.prog 72 #[x] w fun e w'=>e=.returned (.int .i64 (sizeW t))∧Below w.heap.size w w'
 | 0,t,hN,x,w,h=>absurd hN (by rw[nodes_eq t]; omega)
 | N+1,t,hN,x,w,h=>by
   obtain⟨A,m,cp,rfl,hl⟩:=h;have hlen:=hl.len;have m63:m≤9223372036854775807:=Nat.le_trans hl.2.1 hl.2.2.1;have hbx:=below_box (w:=w) (Obj.cells #[.int .u8 t.k,.int .i64 t.n,.int .i64 t.v,.int .u8 t.c,.slice A m cp] 63);have hz:=blk_new w #[.int .u8 t.k,.int .i64 t.n,.int .i64 t.v,.int .u8 t.c,.slice A m cp] 63;have hL:=(hl.below hbx).more hbx.size;have z4:(w.alloc (Obj.cells #[.int .u8 t.k,.int .i64 t.n,.int .i64 t.v,.int .u8 t.c,.slice A m cp] 63)).cell? ⟨w.heap.size,4,none⟩=some (.slice A m cp):=hz.cell 4;have HL:=qq hL;have Hbx:=qq hbx
   have HN:Hid (∀ i (h:i<t.l.length),nodes t.l[i]≤N):=qq fun i h=>by have:=nodes_get h; omega
   clear hl hbx hz hL hN
   go_enter Tryd.func72,Tryd.ntmps72
   go_wp2_with fail;obtain⟨w1,hw1⟩:∃ w1,w.alloc (Obj.cells #[.int .u8 t.k,.int .i64 t.n,.int .i64 t.v,.int .u8 t.c,.slice A m cp] 63)=w1:=⟨_,rfl⟩;rw[hw1] at HL Hbx z4 ⊢;clear hw1 z4
   go_loopg [3,9] m (fun gh s i wr=>∃ k:Nat,k≤m∧gh=m - k∧i=.int .i64 k∧s=.int .i64 (sizeLW (t.l.take k))∧Below w1.heap.size w1 wr)
   case atStart=>exact⟨0,Nat.zero_le _,rfl,rfl,by rw[List.take_zero,sizeLW_nil],Below.refl _ _⟩
   case round=>
    obtain⟨k,hk,rfl,rfl,rfl,hbel⟩:=hrel
    by_cases hkm:k<m
    · have d0:decide (k<m)=true:=by simpa using hkm
      have hk':k<t.l.length:=by omega
      obtain⟨b,off,rfl,hb,hc⟩:=(HL.out.below hbel).at_ (by omega);obtain⟨e0,e1,e2,e3,Ax,mx,cx,e4,hx⟩:=tyAt_iff.1 (hc k hk');have hst:=sizeLW_snoc (t.l.take k) t.l[k];rw[← List.take_succ_eq_append_getElem hk'] at hst;have hn:=HN.out k hk';obtain⟨x,hxk⟩:∃ x,t.l[k]=x:=⟨_,rfl⟩;rw[hxk] at e0 e1 e2 e3 hx hst hn;have hbA:=hbel.alloc hbel.size (Obj.cells #[.int .u8 x.k,.int .i64 x.n,.int .i64 x.v,.int .u8 x.c,.slice Ax mx cx] 63);have hbB:=below_box (w:=wr) (Obj.cells #[.int .u8 x.k,.int .i64 x.n,.int .i64 x.v,.int .u8 x.c,.slice Ax mx cx] 63);have hq:=size_go N x hn (.agg #[.int .u8 x.k,.int .i64 x.n,.int .i64 x.v,.int .u8 x.c,.slice Ax mx cx]) _ ⟨Ax,mx,cx,rfl,((hx.more hbel.size).below hbB).more hbB.size⟩;obtain⟨r,hr⟩:∃ r,sizeW x=r:=⟨_,rfl⟩;obtain⟨s,hs⟩:∃ s,sizeLW (t.l.take k)=s:=⟨_,rfl⟩;rw[hr] at hq hst;rw[hs] at hst ⊢;have Hq:=qq hq;have Hst:=qq hst;have HbA:=qq hbA
      have k1:(0:Int)≤(k:Int):=by omega
      have k2:(k:Int)<m:=by omega
      clear hc hx hxk hq hst hbA hbB hr hs hn hbel;go_wp2_with fail
      refine Hq.out.mono ?_; rintro e w3 ⟨rfl,hb3⟩
      have Hb3:=qq (HbA.out.trans (hb3.mono HbA.out.size));clear hb3 Hq;go_wp2_with fail;go_roundg (m - (k+1))
      case measure=>omega
      case rel=>exact⟨k+1,by omega,rfl,by go_num,by rw[Hst.out],Hb3.out⟩
    · have d0:decide (k<m)=false:=by simpa using hkm
      have HR:Hid (sizeLW (t.l.take k)=sizeW t):=qq (by rw[List.take_of_length_le (by omega),sizeLW_all]);have Hb:=qq (Hbx.out.trans (hbel.mono Hbx.out.size));clear hbel;go_wp2_with fail;go_ret;exact⟨ret_int HR.out,Hb.out⟩
theorem size_any (t:TyD) (x:Value) (w:World) (h:TyV w w.heap.size x t):
 Calls Tryd.prog 72 #[x] w fun e w'=>e=.returned (.int .i64 (sizeW t))∧Below w.heap.size w w':=size_go (nodes t) t (Nat.le_refl _) x w h
theorem refSize_go:∀ (N:Nat) (t:TyD),nodes t≤N→∀ (x:Value) (w:World),TyV w w.heap.size x t →
  Calls Tryd.prog 27 #[x] w fun e w'=>e=.returned (.int .i64 (sizeW t))∧Below w.heap.size w w'
 | 0,t,hN,x,w,h=>absurd hN (by rw[nodes_eq t]; omega)
 | N+1,t,hN,x,w,h=>by
   obtain⟨A,m,cp,rfl,hl⟩:=h;have hlen:=hl.len;have m63:m≤9223372036854775807:=Nat.le_trans hl.2.1 hl.2.2.1;have hbx:=below_box (w:=w) (Obj.cells #[.int .u8 t.k,.int .i64 t.n,.int .i64 t.v,.int .u8 t.c,.slice A m cp] 63);have hz:=blk_new w #[.int .u8 t.k,.int .i64 t.n,.int .i64 t.v,.int .u8 t.c,.slice A m cp] 63;have hL:=(hl.below hbx).more hbx.size;have HL:=qq hL;have Hz:=qq hz;have Hbx:=qq hbx
   have HN:Hid (∀ i (h:i<t.l.length),nodes t.l[i]≤N):=qq fun i h=>by have:=nodes_get h; omega
   clear hl hbx hz hL hN
   go_enter Tryd.func27,Tryd.ntmps27
   go_wp2_with fail;obtain⟨w1,hw1⟩:∃ w1,w.alloc (Obj.cells #[.int .u8 t.k,.int .i64 t.n,.int .i64 t.v,.int .u8 t.c,.slice A m cp] 63)=w1:=⟨_,rfl⟩;rw[hw1] at HL Hbx Hz ⊢;clear hw1;have Hlt:=qq Hz.out.lt
   go_loopg [3,4] m (fun gh s i wr=>∃ k:Nat,k≤m∧gh=m - k∧i=.int .i64 k∧s=.int .i64 (sizeLW (t.l.take k))∧Below w1.heap.size w1 wr)
   case atStart=>exact⟨0,Nat.zero_le _,rfl,rfl,by rw[List.take_zero,sizeLW_nil],Below.refl _ _⟩
   case round=>
    obtain⟨k,hk,rfl,rfl,rfl,hbel⟩:=hrel;have z4:wr.cell? ⟨w.heap.size,4,none⟩=some (.slice A m cp):=(Hz.out.below hbel Hlt.out).cell 4
    by_cases hkm:k<m
    · have d0:decide (k<m)=true:=by simpa using hkm
      have hk':k<t.l.length:=by omega
      obtain⟨b,off,rfl,hb,hc⟩:=(HL.out.below hbel).at_ (by omega);obtain⟨e0,e1,e2,e3,Ax,mx,cx,e4,hx⟩:=tyAt_iff.1 (hc k hk');have hst:=sizeLW_snoc (t.l.take k) t.l[k];rw[← List.take_succ_eq_append_getElem hk'] at hst;have hn:=HN.out k hk';obtain⟨x,hxk⟩:∃ x,t.l[k]=x:=⟨_,rfl⟩;rw[hxk] at e0 e1 e2 e3 hx hst hn;have hq:=refSize_go N x hn (.agg #[.int .u8 x.k,.int .i64 x.n,.int .i64 x.v,.int .u8 x.c,.slice Ax mx cx]) wr ⟨Ax,mx,cx,rfl,hx.more hbel.size⟩;obtain⟨r,hr⟩:∃ r,sizeW x=r:=⟨_,rfl⟩;obtain⟨s,hs⟩:∃ s,sizeLW (t.l.take k)=s:=⟨_,rfl⟩;rw[hr] at hq hst;rw[hs] at hst ⊢;have Hq:=qq hq;have Hst:=qq hst;have Hbel:=qq hbel
      have k1:(0:Int)≤(k:Int):=by omega
      have k2:(k:Int)<m:=by omega
      clear hc hx hxk hq hst hr hs hn hbel;go_wp2_with fail
      refine Hq.out.mono ?_; rintro e w3 ⟨rfl,hb3⟩
      have Hb3:=qq (Hbel.out.trans (hb3.mono Hbel.out.size));clear hb3 Hq;go_wp2_with fail;go_roundg (m - (k+1))
      case measure=>omega
      case rel=>exact⟨k+1,by omega,rfl,by go_num,by rw[Hst.out],Hb3.out⟩
    · have d0:decide (k<m)=false:=by simpa using hkm
      have HR:Hid (sizeLW (t.l.take k)=sizeW t):=qq (by rw[List.take_of_length_le (by omega),sizeLW_all]);have Hb:=qq (Hbx.out.trans (hbel.mono Hbx.out.size));clear hbel;go_wp2_with fail;go_ret;exact⟨ret_int HR.out,Hb.out⟩
theorem refSize_any (t:TyD) (x:Value) (w:World) (h:TyV w w.heap.size x t):
 Calls Tryd.prog 27 #[x] w fun e w'=>e=.returned (.int .i64 (sizeW t))∧Below w.heap.size w w':=refSize_go (nodes t) t (Nat.le_refl _) x w h
def kidsI (k:Int):Int:=if k=6 then 1 else if k=7 then 2 else if k=8 then -1 else 0
theorem kids_any (k:Int) (w:World):Calls Tryd.prog 104 #[.int .u8 k] w fun e w'=>e=.returned (.int .i64 (kidsI k))∧w=w':=by
 by_cases h6:k=6
 · subst h6
   go_enter Tryd.func104,Tryd.ntmps104
   go_wp2_with fail;go_ret;exact⟨rfl,rfl⟩
 · by_cases h7:k=7
   · subst h7
     go_enter Tryd.func104,Tryd.ntmps104
     go_wp2_with fail;go_ret;exact⟨rfl,rfl⟩
   · by_cases h8:k=8
     · subst h8
       go_enter Tryd.func104,Tryd.ntmps104
       go_wp2_with fail;go_ret;exact⟨rfl,rfl⟩
     · have e:kidsI k=0:=by unfold kidsI; rw[if_neg h6,if_neg h7,if_neg h8]
       have d6:(k==6)=false:=by simp[h6]
       have d7:(k==7)=false:=by simp[h7]
       have d8:(k==8)=false:=by simp[h8]
       rw[e];clear e
       go_enter Tryd.func104,Tryd.ntmps104
       go_wp2_with fail;go_ret;exact⟨rfl,rfl⟩
def mostI (k:Int):Int:=if k=1 then 1048576 else if k=8 then 40 else 1
def isN (t:TyD):Bool:=
 decide (1≤t.k)&&decide (t.k≤8)&&decide (0≤t.n)&&decide (t.n<mostI t.k)&&!(decide (0≤kidsI t.k)&&!decide ((t.l.length:Int)=kidsI t.k))&&decide ((t.l.length:Int)≤4) &&
  ((decide (t.v=0)&&decide (t.c=0)) || (decide (t.k=7)&&isB t.c t.v))
theorem is_at (c v:Int) (x:Int) (hx:isE c v=x) (w:World):
  Calls Tryd.prog 88 #[.agg #[.int .i64 v,.int .u8 c]] w fun e w'=>e=.returned (.int .i64 x)∧Below w.heap.size w w':=by
 rw[← hx]; exact is_any c v w
theorem isN_any (k n v c:Int) (l:List TyD) (A:Option Addr) (m cp:Nat) (w:World) (hlen:l.length=m) (hm:m≤9223372036854775807):
  Calls Tryd.prog 82 #[.agg #[.int .u8 k,.int .i64 n,.int .i64 v,.int .u8 c,.slice A m cp]] w fun e w'=>e=.returned (.bool (isN ⟨k,n,v,c,l⟩))∧Below w.heap.size w w':=by
 have hmx:=@run_max2 Tryd.prog;have hbx:=below_box (w:=w) (Obj.cells #[.int .u8 k,.int .i64 n,.int .i64 v,.int .u8 c,.slice A m cp] 63);have hz:=blk_new w #[.int .u8 k,.int .i64 n,.int .i64 v,.int .u8 c,.slice A m cp] 63
 have hd:isN ⟨k,n,v,c,l⟩=(decide (1≤k)&&decide (k≤8)&&decide (0≤n)&&decide (n<mostI k)&&!(decide (0≤kidsI k)&&!decide ((m:Int)=kidsI k))&&decide ((m:Int)≤4)&&((decide (v=0)&&decide (c=0)) || (decide (k=7)&&isB c v))):=by
  rw[← hlen]; rfl
 have Hd:=qq hd;have Hbx:=qq hbx;obtain⟨W,hW⟩:∃ W,w.alloc (Obj.cells #[.int .u8 k,.int .i64 n,.int .i64 v,.int .u8 c,.slice A m cp] 63)=W:=⟨_,rfl⟩
 have z0:W.cell? ⟨w.heap.size,0,none⟩=some (.int .u8 k):=by rw[← hW]; exact hz.cell 0
 have z1:W.cell? ⟨w.heap.size,1,none⟩=some (.int .i64 n):=by rw[← hW]; exact hz.cell 1
 have z2:W.cell? ⟨w.heap.size,2,none⟩=some (.int .i64 v):=by rw[← hW]; exact hz.cell 2
 have z3:W.cell? ⟨w.heap.size,3,none⟩=some (.int .u8 c):=by rw[← hW]; exact hz.cell 3
 have z4:W.cell? ⟨w.heap.size,4,none⟩=some (.slice A m cp):=by rw[← hW]; exact hz.cell 4
 rw[hW] at Hbx;clear hd hbx hz;obtain⟨K,hK⟩:∃ K,kidsI k=K:=⟨_,rfl⟩;have hkc:=kids_any k W;rw[hK] at hkc Hd;have Hkc:=qq hkc;have HK:=qq hK;have HW:=qq hW;clear hkc hK hW
 go_enter Tryd.func82,Tryd.ntmps82
 by_cases h1:k<1
 · have d1:decide (k<1)=true:=by simpa using h1
   have HR:Hid (false=isN ⟨k,n,v,c,l⟩):=qq (by rw[Hd.out,decide_eq_false (by omega)]; rfl)
   go_wp2_with fail;rw[HW.out];go_wp2_with fail;go_ret;exact⟨ret_bool HR.out,Hbx.out⟩
 · have d1:decide (k<1)=false:=by simpa using h1
   by_cases h8:k>8
   · have d2:decide (k>8)=true:=by simpa using h8
     have HR:Hid (false=isN ⟨k,n,v,c,l⟩):=qq (by rw[Hd.out,decide_eq_false (show ¬ k≤8 by omega),Bool.and_false]; rfl)
     go_wp2_with fail;rw[HW.out];go_wp2_with fail;go_ret;exact⟨ret_bool HR.out,Hbx.out⟩
   · have d2:decide (k>8)=false:=by simpa using h8
     rw[decide_eq_true (show 1≤k by omega),decide_eq_true (show k≤8 by omega),Bool.true_and,Bool.true_and] at Hd
     go_wp2_with fail;rw[HW.out]
     refine Hkc.out.mono ?_; rintro e w1 ⟨rfl,rfl⟩
     clear Hkc d1 d2 h1 h8;have hmm:mostI k=if k=1 then 1048576 else if k=8 then 40 else 1:=rfl
     by_cases hk1:k=1
     · have c1:(k==1)=true:=by simp[hk1]
       have c8:(k==8)=false:=by simp[hk1]
       have hk7:¬ k=7:=by omega
       rw[hmm,if_pos hk1] at Hd
       have hK0:K=0:=by rw[← HK.out,hk1]; rfl
       subst hK0
       have d5:decide ((0:Int)≥0)=true:=by decide
       rw[show decide ((0:Int)≤0)=true from by decide] at Hd
       clear hmm hk1
       by_cases hn0:n<0
       · have d3:decide (n<0)=true:=by simpa using hn0
         rw[decide_eq_false (show ¬ (0≤n) by omega)] at Hd
         clear hn0
         have HR:Hid (false=isN ⟨k,n,v,c,l⟩):=qq (by rw[Hd.out]; rfl)
         clear Hd;go_wp2_with fail;go_ret;exact⟨ret_bool HR.out,Hbx.out⟩
       · have d3:decide (n<0)=false:=by simpa using hn0
         rw[decide_eq_true (show 0≤n by omega)] at Hd
         clear hn0
         by_cases hn1:n≥1048576
         · have d4:decide (n≥max 1048576 1)=true:=by rw[show max (1048576:Int) 1=1048576 from by decide]; simpa using hn1
           rw[decide_eq_false (show ¬ (n<1048576) by omega)] at Hd
           clear hn1
           have HR:Hid (false=isN ⟨k,n,v,c,l⟩):=qq (by rw[Hd.out]; rfl)
           clear Hd;go_wp2_with fail;go_ret;exact⟨ret_bool HR.out,Hbx.out⟩
         · have d4:decide (n≥max 1048576 1)=false:=by rw[show max (1048576:Int) 1=1048576 from by decide]; simpa using hn1
           rw[decide_eq_true (show n<1048576 by omega)] at Hd
           clear hn1
           by_cases hkm:(m:Int)=0
           · have d6:((m:Int) != 0)=false:=by simp[hkm]
             rw[decide_eq_true hkm] at Hd;have d7:decide ((m:Int)>4)=false:=decide_eq_false (by omega)
             rw[decide_eq_true (show(m:Int)≤4 by omega)] at Hd
             clear hkm
             by_cases hv:v=0
             · have e1:(v==0)=true:=by simp[hv]
               rw[decide_eq_true hv] at Hd;clear hv
               by_cases hc:c=0
               · have e2:(c==0)=true:=by simp[hc]
                 rw[decide_eq_true hc] at Hd;clear hc
                 have HR:Hid (true=isN ⟨k,n,v,c,l⟩):=qq (by rw[Hd.out]; rfl)
                 clear Hd;go_wp2_with fail;go_ret;exact⟨ret_bool HR.out,Hbx.out⟩
               · have e2:(c==0)=false:=by simp[hc]
                 rw[decide_eq_false hc] at Hd;clear hc
                 have e7:(k==7)=false:=by simp[hk7]
                 rw[decide_eq_false hk7] at Hd
                 have HR:Hid (false=isN ⟨k,n,v,c,l⟩):=qq (by rw[Hd.out]; rfl)
                 clear Hd;go_wp2_with fail;go_ret;exact⟨ret_bool HR.out,Hbx.out⟩
             · have e1:(v==0)=false:=by simp[hv]
               rw[decide_eq_false hv] at Hd;clear hv
               have e7:(k==7)=false:=by simp[hk7]
               rw[decide_eq_false hk7] at Hd
               have HR:Hid (false=isN ⟨k,n,v,c,l⟩):=qq (by rw[Hd.out]; rfl)
               clear Hd;go_wp2_with fail;go_ret;exact⟨ret_bool HR.out,Hbx.out⟩
           · have d6:((m:Int) != 0)=true:=by simp; omega
             rw[decide_eq_false hkm] at Hd;clear hkm
             have HR:Hid (false=isN ⟨k,n,v,c,l⟩):=qq (by rw[Hd.out]; rfl)
             clear Hd;go_wp2_with fail;go_ret;exact⟨ret_bool HR.out,Hbx.out⟩
     · have c1:(k==1)=false:=by simp[hk1]
       by_cases hk8:k=8
       · have c2:(k==8)=true:=by simp[hk8]
         have hk7:¬ k=7:=by omega
         rw[hmm,if_neg hk1,if_pos hk8] at Hd
         have hK0:K = -1:=by rw[← HK.out,hk8]; rfl
         subst hK0
         have d5:decide ((-1:Int)≥0)=false:=by decide
         rw[show decide ((0:Int) ≤ -1)=false from by decide] at Hd
         clear hmm hk1 hk8
         by_cases hn0:n<0
         · have d3:decide (n<0)=true:=by simpa using hn0
           rw[decide_eq_false (show ¬ (0≤n) by omega)] at Hd
           clear hn0
           have HR:Hid (false=isN ⟨k,n,v,c,l⟩):=qq (by rw[Hd.out]; rfl)
           clear Hd;go_wp2_with fail;go_ret;exact⟨ret_bool HR.out,Hbx.out⟩
         · have d3:decide (n<0)=false:=by simpa using hn0
           rw[decide_eq_true (show 0≤n by omega)] at Hd
           clear hn0
           by_cases hn1:n≥40
           · have d4:decide (n≥max 40 1)=true:=by rw[show max (40:Int) 1=40 from by decide]; simpa using hn1
             rw[decide_eq_false (show ¬ (n<40) by omega)] at Hd
             clear hn1
             have HR:Hid (false=isN ⟨k,n,v,c,l⟩):=qq (by rw[Hd.out]; rfl)
             clear Hd;go_wp2_with fail;go_ret;exact⟨ret_bool HR.out,Hbx.out⟩
           · have d4:decide (n≥max 40 1)=false:=by rw[show max (40:Int) 1=40 from by decide]; simpa using hn1
             rw[decide_eq_true (show n<40 by omega)] at Hd
             clear hn1
             by_cases hm4:(m:Int)>4
             · have d7:decide ((m:Int)>4)=true:=by simpa using hm4
               rw[decide_eq_false (show ¬ ((m:Int)≤4) by omega)] at Hd
               clear hm4
               have HR:Hid (false=isN ⟨k,n,v,c,l⟩):=qq (by rw[Hd.out]; rfl)
               clear Hd;go_wp2_with fail;go_ret;exact⟨ret_bool HR.out,Hbx.out⟩
             · have d7:decide ((m:Int)>4)=false:=by simpa using hm4
               rw[decide_eq_true (show(m:Int)≤4 by omega)] at Hd
               clear hm4
               by_cases hv:v=0
               · have e1:(v==0)=true:=by simp[hv]
                 rw[decide_eq_true hv] at Hd;clear hv
                 by_cases hc:c=0
                 · have e2:(c==0)=true:=by simp[hc]
                   rw[decide_eq_true hc] at Hd;clear hc
                   have HR:Hid (true=isN ⟨k,n,v,c,l⟩):=qq (by rw[Hd.out]; rfl)
                   clear Hd;go_wp2_with fail;go_ret;exact⟨ret_bool HR.out,Hbx.out⟩
                 · have e2:(c==0)=false:=by simp[hc]
                   rw[decide_eq_false hc] at Hd;clear hc
                   have e7:(k==7)=false:=by simp[hk7]
                   rw[decide_eq_false hk7] at Hd
                   have HR:Hid (false=isN ⟨k,n,v,c,l⟩):=qq (by rw[Hd.out]; rfl)
                   clear Hd;go_wp2_with fail;go_ret;exact⟨ret_bool HR.out,Hbx.out⟩
               · have e1:(v==0)=false:=by simp[hv]
                 rw[decide_eq_false hv] at Hd;clear hv
                 have e7:(k==7)=false:=by simp[hk7]
                 rw[decide_eq_false hk7] at Hd
                 have HR:Hid (false=isN ⟨k,n,v,c,l⟩):=qq (by rw[Hd.out]; rfl)
                 clear Hd;go_wp2_with fail;go_ret;exact⟨ret_bool HR.out,Hbx.out⟩
       · have c2:(k==8)=false:=by simp[hk8]
         rw[hmm,if_neg hk1,if_neg hk8] at Hd
         have hK0:0≤K:=by rw[← HK.out]; unfold kidsI; split <;> (try split) <;> (try split) <;> omega
         have d5:decide (K≥0)=true:=by simpa using hK0
         rw[decide_eq_true hK0] at Hd;clear hmm hK0 hk1 hk8
         by_cases hk7:k=7
         · have e7:(k==7)=true:=by simp[hk7]
           rw[decide_eq_true hk7] at Hd;clear hk7
           by_cases hn0:n<0
           · have d3:decide (n<0)=true:=by simpa using hn0
             rw[decide_eq_false (show ¬ (0≤n) by omega)] at Hd
             clear hn0
             have HR:Hid (false=isN ⟨k,n,v,c,l⟩):=qq (by rw[Hd.out]; rfl)
             clear Hd;go_wp2_with fail;go_ret;exact⟨ret_bool HR.out,Hbx.out⟩
           · have d3:decide (n<0)=false:=by simpa using hn0
             rw[decide_eq_true (show 0≤n by omega)] at Hd
             clear hn0
             by_cases hn1:n≥1
             · have d4:decide (n≥max 0 1)=true:=by rw[show max (0:Int) 1=1 from by decide]; simpa using hn1
               rw[decide_eq_false (show ¬ (n<1) by omega)] at Hd
               clear hn1
               have HR:Hid (false=isN ⟨k,n,v,c,l⟩):=qq (by rw[Hd.out]; rfl)
               clear Hd;go_wp2_with fail;go_ret;exact⟨ret_bool HR.out,Hbx.out⟩
             · have d4:decide (n≥max 0 1)=false:=by rw[show max (0:Int) 1=1 from by decide]; simpa using hn1
               rw[decide_eq_true (show n<1 by omega)] at Hd
               clear hn1
               by_cases hkm:(m:Int)=K
               · have d6:((m:Int) != K)=false:=by simp[hkm]
                 rw[decide_eq_true hkm] at Hd;clear hkm
                 by_cases hm4:(m:Int)>4
                 · have d7:decide ((m:Int)>4)=true:=by simpa using hm4
                   rw[decide_eq_false (show ¬ ((m:Int)≤4) by omega)] at Hd
                   clear hm4
                   have HR:Hid (false=isN ⟨k,n,v,c,l⟩):=qq (by rw[Hd.out]; rfl)
                   clear Hd;go_wp2_with fail;go_ret;exact⟨ret_bool HR.out,Hbx.out⟩
                 · have d7:decide ((m:Int)>4)=false:=by simpa using hm4
                   rw[decide_eq_true (show(m:Int)≤4 by omega)] at Hd
                   clear hm4
                   by_cases hv:v=0
                   · have e1:(v==0)=true:=by simp[hv]
                     rw[decide_eq_true hv] at Hd;clear hv
                     by_cases hc:c=0
                     · have e2:(c==0)=true:=by simp[hc]
                       rw[decide_eq_true hc] at Hd;clear hc
                       have HR:Hid (true=isN ⟨k,n,v,c,l⟩):=qq (by rw[Hd.out]; rfl)
                       clear Hd;go_wp2_with fail;go_ret;exact⟨ret_bool HR.out,Hbx.out⟩
                     · have e2:(c==0)=false:=by simp[hc]
                       rw[decide_eq_false hc] at Hd;clear hc;obtain⟨I,hI⟩:∃ I,isB c v=I:=⟨_,rfl⟩;rw[hI] at Hd
                       cases I with
                       | true=>
                         have HR:Hid (true=isN ⟨k,n,v,c,l⟩):=qq (by rw[Hd.out]; rfl)
                         have Hq:=qq (is_at c v 0 (isE_yes hI) W);clear hI Hd;go_wp2_with fail
                         refine Hq.out.mono ?_; rintro e w1 ⟨rfl,hb1⟩
                         go_wp2_with fail;go_ret;exact⟨ret_bool HR.out,Hbx.out.trans (hb1.mono Hbx.out.size)⟩
                       | false=>
                         have HR:Hid (false=isN ⟨k,n,v,c,l⟩):=qq (by rw[Hd.out]; rfl)
                         have Hq:=qq (is_at c v 2 (isE_no hI) W);clear hI Hd;go_wp2_with fail
                         refine Hq.out.mono ?_; rintro e w1 ⟨rfl,hb1⟩
                         go_wp2_with fail;go_ret;exact⟨ret_bool HR.out,Hbx.out.trans (hb1.mono Hbx.out.size)⟩
                   · have e1:(v==0)=false:=by simp[hv]
                     rw[decide_eq_false hv] at Hd;clear hv;obtain⟨I,hI⟩:∃ I,isB c v=I:=⟨_,rfl⟩;rw[hI] at Hd
                     cases I with
                     | true=>
                       have HR:Hid (true=isN ⟨k,n,v,c,l⟩):=qq (by rw[Hd.out]; rfl)
                       have Hq:=qq (is_at c v 0 (isE_yes hI) W);clear hI Hd;go_wp2_with fail
                       refine Hq.out.mono ?_; rintro e w1 ⟨rfl,hb1⟩
                       go_wp2_with fail;go_ret;exact⟨ret_bool HR.out,Hbx.out.trans (hb1.mono Hbx.out.size)⟩
                     | false=>
                       have HR:Hid (false=isN ⟨k,n,v,c,l⟩):=qq (by rw[Hd.out]; rfl)
                       have Hq:=qq (is_at c v 2 (isE_no hI) W);clear hI Hd;go_wp2_with fail
                       refine Hq.out.mono ?_; rintro e w1 ⟨rfl,hb1⟩
                       go_wp2_with fail;go_ret;exact⟨ret_bool HR.out,Hbx.out.trans (hb1.mono Hbx.out.size)⟩
               · have d6:((m:Int) != K)=true:=by simp[hkm]
                 rw[decide_eq_false hkm] at Hd;clear hkm
                 have HR:Hid (false=isN ⟨k,n,v,c,l⟩):=qq (by rw[Hd.out]; rfl)
                 clear Hd;go_wp2_with fail;go_ret;exact⟨ret_bool HR.out,Hbx.out⟩
         · have e70:=trivial
           clear e70
           by_cases hn0:n<0
           · have d3:decide (n<0)=true:=by simpa using hn0
             rw[decide_eq_false (show ¬ (0≤n) by omega)] at Hd
             clear hn0
             have HR:Hid (false=isN ⟨k,n,v,c,l⟩):=qq (by rw[Hd.out]; rfl)
             clear Hd;go_wp2_with fail;go_ret;exact⟨ret_bool HR.out,Hbx.out⟩
           · have d3:decide (n<0)=false:=by simpa using hn0
             rw[decide_eq_true (show 0≤n by omega)] at Hd
             clear hn0
             by_cases hn1:n≥1
             · have d4:decide (n≥max 0 1)=true:=by rw[show max (0:Int) 1=1 from by decide]; simpa using hn1
               rw[decide_eq_false (show ¬ (n<1) by omega)] at Hd
               clear hn1
               have HR:Hid (false=isN ⟨k,n,v,c,l⟩):=qq (by rw[Hd.out]; rfl)
               clear Hd;go_wp2_with fail;go_ret;exact⟨ret_bool HR.out,Hbx.out⟩
             · have d4:decide (n≥max 0 1)=false:=by rw[show max (0:Int) 1=1 from by decide]; simpa using hn1
               rw[decide_eq_true (show n<1 by omega)] at Hd
               clear hn1
               by_cases hkm:(m:Int)=K
               · have d6:((m:Int) != K)=false:=by simp[hkm]
                 rw[decide_eq_true hkm] at Hd;clear hkm
                 by_cases hm4:(m:Int)>4
                 · have d7:decide ((m:Int)>4)=true:=by simpa using hm4
                   rw[decide_eq_false (show ¬ ((m:Int)≤4) by omega)] at Hd
                   clear hm4
                   have HR:Hid (false=isN ⟨k,n,v,c,l⟩):=qq (by rw[Hd.out]; rfl)
                   clear Hd;go_wp2_with fail;go_ret;exact⟨ret_bool HR.out,Hbx.out⟩
                 · have d7:decide ((m:Int)>4)=false:=by simpa using hm4
                   rw[decide_eq_true (show(m:Int)≤4 by omega)] at Hd
                   clear hm4
                   by_cases hv:v=0
                   · have e1:(v==0)=true:=by simp[hv]
                     rw[decide_eq_true hv] at Hd;clear hv
                     by_cases hc:c=0
                     · have e2:(c==0)=true:=by simp[hc]
                       rw[decide_eq_true hc] at Hd;clear hc
                       have HR:Hid (true=isN ⟨k,n,v,c,l⟩):=qq (by rw[Hd.out]; rfl)
                       clear Hd;go_wp2_with fail;go_ret;exact⟨ret_bool HR.out,Hbx.out⟩
                     · have e2:(c==0)=false:=by simp[hc]
                       rw[decide_eq_false hc] at Hd;clear hc
                       have e7:(k==7)=false:=by simp[hk7]
                       rw[decide_eq_false hk7] at Hd
                       have HR:Hid (false=isN ⟨k,n,v,c,l⟩):=qq (by rw[Hd.out]; rfl)
                       clear Hd;go_wp2_with fail;go_ret;exact⟨ret_bool HR.out,Hbx.out⟩
                   · have e1:(v==0)=false:=by simp[hv]
                     rw[decide_eq_false hv] at Hd;clear hv
                     have e7:(k==7)=false:=by simp[hk7]
                     rw[decide_eq_false hk7] at Hd
                     have HR:Hid (false=isN ⟨k,n,v,c,l⟩):=qq (by rw[Hd.out]; rfl)
                     clear Hd;go_wp2_with fail;go_ret;exact⟨ret_bool HR.out,Hbx.out⟩
               · have d6:((m:Int) != K)=true:=by simp[hkm]
                 rw[decide_eq_false hkm] at Hd;clear hkm
                 have HR:Hid (false=isN ⟨k,n,v,c,l⟩):=qq (by rw[Hd.out]; rfl)
                 clear Hd;go_wp2_with fail;go_ret;exact⟨ret_bool HR.out,Hbx.out⟩
end Go.Proofs.YtgpeijkjmkocgaaDoor
