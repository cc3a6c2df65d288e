import Derived.Test.YtdmakpmbknindaaGreatDoorM21
namespace Go.Proofs.YtdmakpmbknindaaGreatDoor
set_option linter.unusedVariables false
set_option linter.unusedSimpArgs false
open Go.RowKit
def putV (types:List TyD) (n:Int):Option TyD:=if n<types.length then types[n.toNat]? else none
def putM (mults:List (Int × Int)) (n:Int):Int × Int:=if n<mults.length then mults.getD n.toNat (n,0) else (n,0)
set_option maxRecDepth 100000 in
set_option maxHeartbeats 2000000 in
theorem put3_any (p1:Nat) (A:Option Addr) (m c:Nat) (types:List TyD) (i:Int) (w:World) (hp:w.cell? ⟨p1,0,none⟩=some (.slice A m c)) (ht:TysV w w.heap.size A m c types) (hm:∀ t∈types,mayT t=true) (h0:0≤i):
 Calls Tryz.prog 65 (#[.int .i64 i]++#[.pointer (some ⟨p1,0,none⟩)]) w (VPost (putV types) i w):=by
 have hlen:=ht.len;have m63:m≤9223372036854775807:=Nat.le_trans ht.2.1 ht.2.2.1;have hbx:=below_box (w:=w) (Obj.cells #[.int .u8 0,.int .i64 0,.int .i64 0,.int .u8 0,.slice none 0 0] 27);have hy:=blk_new w #[.int .u8 0,.int .i64 0,.int .i64 0,.int .u8 0,.slice none 0 0] 27;have hL:=(ht.below hbx).more hbx.size;have hp1:=(hbx.cell (p:=⟨p1,0,none⟩) (block_lt_of_cell hp)).trans hp
 by_cases hi:i<m
 · have d0:decide (i<m)=true:=by simpa using hi
   have hi':i.toNat<types.length:=by omega
   have hv:putV types i=some types[i.toNat]:=by unfold putV; rw[if_pos (by omega),qj hi']
   obtain⟨b,off,rfl,hb,hc⟩:=hL.at_ (by omega);obtain⟨e0,e1,e2,e3,A2,n2,c2,e4,hx⟩:=tyAt_iff.1 (hc i.toNat hi');have hmx:=hm types[i.toNat] (List.getElem_mem hi');obtain⟨x,hxk⟩:∃ x,types[i.toNat]=x:=⟨_,rfl⟩;rw[hxk] at e0 e1 e2 e3 hx hmx hv;have hq:=fresh_go (nodes x) x (Nat.le_refl _) hmx A2 n2 c2 _ hx;have Hq:=qq hq;have Hy:=qq hy;have Hbx:=qq hbx;have Hv:=qq hv;clear ht hm hbx hy hL hp hc hx hmx hxk hq hv
   go_enter Tryz.func65,Tryz.ntmps65
   go_wp2_with fail
   refine Hq.out.mono ?_; rintro e w3 ⟨A3,n3,c3,rfl,hx3,hb3⟩
   have hy4:=Hy.out.below hb3 Hy.out.lt;have hb4:=Hbx.out.trans (hb3.mono Hbx.out.size);have hg2w:w.heap.size≤w.heap.size:=Nat.le_refl _
   have hT4:TysS w3 (fun q=>w.heap.size≤q∧q<w3.heap.size∧q≠w.heap.size) A3 n3 c3 x.l:=hx3.keep (fun q hq=>by have:=hq.1; rw[World.size_alloc] at this; exact⟨by omega,hq.2,by omega⟩) fun _ _=>rfl
   have s0:=hy4.frozen 0;have s1:=hy4.frozen 1;have s2:=hy4.frozen 2;have s3:=hy4.frozen 3;have s4:=hy4.frozen 4;have r0:=hy4.cell 0;have r1:=hy4.cell 1;have r2:=hy4.cell 2;have r3:=hy4.cell 3;have r4:=hy4.cell 4;have Hy4:=qq hy4;have Hb4:=qq hb4;have HT4:=qq hT4;clear hy4 hb4 hT4 hx3 hb3 e0 e1 e2 e3 e4 hp1 Hq Hy Hbx;go_wp2_with fail
   have hs:Blk (((((w3.setCell ⟨w.heap.size,0,none⟩ (.int .u8 x.k)).setCell ⟨w.heap.size,1,none⟩ (.int .i64 x.n)).setCell ⟨w.heap.size,2,none⟩ (.int .i64 x.v)).setCell ⟨w.heap.size,3,none⟩ (.int .u8 x.c)).setCell ⟨w.heap.size,4,none⟩ (.slice A3 n3 c3)) w.heap.size 27 #[.int .u8 x.k,.int .i64 x.n,.int .i64 x.v,.int .u8 x.c,.slice A3 n3 c3]:=
    ((((Hy4.out.set_ 0 (.int .u8 x.k)).set_ 1 (.int .i64 x.n)).set_ 2 (.int .i64 x.v)).set_ 3 (.int .u8 x.c)).set_ 4 (.slice A3 n3 c3)
   have hb9:=((((Hb4.out.setCell (p:=⟨w.heap.size,0,none⟩) hg2w (.int .u8 x.k)).setCell (p:=⟨w.heap.size,1,none⟩) hg2w (.int .i64 x.n)).setCell (p:=⟨w.heap.size,2,none⟩) hg2w (.int .i64 x.v)).setCell (p:=⟨w.heap.size,3,none⟩) hg2w (.int .u8 x.c)).setCell (p:=⟨w.heap.size,4,none⟩) hg2w (.slice A3 n3 c3)
   have hr9:TysS (((((w3.setCell ⟨w.heap.size,0,none⟩ (.int .u8 x.k)).setCell ⟨w.heap.size,1,none⟩ (.int .i64 x.n)).setCell ⟨w.heap.size,2,none⟩ (.int .i64 x.v)).setCell ⟨w.heap.size,3,none⟩ (.int .u8 x.c)).setCell ⟨w.heap.size,4,none⟩ (.slice A3 n3 c3)) (fun b=>w.heap.size≤b∧b<(((((w3.setCell ⟨w.heap.size,0,none⟩ (.int .u8 x.k)).setCell ⟨w.heap.size,1,none⟩ (.int .i64 x.n)).setCell ⟨w.heap.size,2,none⟩ (.int .i64 x.v)).setCell ⟨w.heap.size,3,none⟩ (.int .u8 x.c)).setCell ⟨w.heap.size,4,none⟩ (.slice A3 n3 c3)).heap.size) A3 n3 c3 x.l:=by
    refine HT4.out.keep (fun b hb=>⟨hb.1,by simpa using hb.2.1⟩) fun p hp=>?_
    have c1:∀ (W':World) (o:Nat) (u:Value),(W'.setCell ⟨w.heap.size,o,none⟩ u).cell? p=W'.cell? p:=fun W' o u=>World.cell?_setCell_other _ _ _ _ (fun e=>hp.2.2 (by rw[← e]));rw[c1,c1,c1,c1,c1]
   generalize (((((w3.setCell ⟨w.heap.size,0,none⟩ (.int .u8 x.k)).setCell ⟨w.heap.size,1,none⟩ (.int .i64 x.n)).setCell ⟨w.heap.size,2,none⟩ (.int .i64 x.v)).setCell ⟨w.heap.size,3,none⟩ (.int .u8 x.c)).setCell ⟨w.heap.size,4,none⟩ (.slice A3 n3 c3))=W6 at hs hb9 hr9 ⊢;have d0':W6.cell? ⟨w.heap.size,0,none⟩=some (.int .u8 x.k):=hs.cell 0;have d1':W6.cell? ⟨w.heap.size,1,none⟩=some (.int .i64 x.n):=hs.cell 1;have d2':W6.cell? ⟨w.heap.size,2,none⟩=some (.int .i64 x.v):=hs.cell 2;have d3':W6.cell? ⟨w.heap.size,3,none⟩=some (.int .u8 x.c):=hs.cell 3;have d4':W6.cell? ⟨w.heap.size,4,none⟩=some (.slice A3 n3 c3):=hs.cell 4
   exact bodyPost_ret (v:=.tuple #[.agg #[.int .u8 x.k,.int .i64 x.n,.int .i64 x.v,.int .u8 x.c,.slice A3 n3 c3],.bool true]) (by simp[results,Tryz.results65,go_sem,d0',d1',d2',d3',d4']) rfl ⟨x,A3,n3,c3,true,rfl,hr9,by rw[Hv.out]; rfl,hb9⟩
 · have d0:decide (i<m)=false:=by simpa using hi
   have hv:putV types i=none:=by unfold putV; rw[if_neg (by omega)]
   have s0:=hy.frozen 0;have s1:=hy.frozen 1;have s2:=hy.frozen 2;have s3:=hy.frozen 3;have s4:=hy.frozen 4;have r0:=hy.cell 0;have r1:=hy.cell 1;have r2:=hy.cell 2;have r3:=hy.cell 3;have r4:=hy.cell 4;have Hbx:=qq hbx;have Hv:=qq hv;clear ht hm hbx hL hp hv hi
   go_enter Tryz.func65,Tryz.ntmps65
   go_wp2_with fail
   exact bodyPost_ret (v:=.tuple #[.agg #[.int .u8 0,.int .i64 0,.int .i64 0,.int .u8 0,.slice none 0 0],.bool false]) (by simp[results,Tryz.results65,go_sem,r0,r1,r2,r3,r4]) rfl ⟨.mk 0 0 0 0 [],none,0,0,false,rfl,TysS.nil,by rw[Hv.out]; rfl,Hbx.out⟩
def MusV (w:World) (B:Nat) (A:Option Addr) (n c:Nat) (ms:List (Int × Int)):Prop:=
 ms.length=n∧n≤c∧c≤maxLen∧(0<n→∃ b off,A=some ⟨b,off,none⟩∧b<B∧∀ i (h:i<ms.length),w.cell? ⟨b,off+i * 2,none⟩=some (.int .i64 ms[i].1)∧w.cell? ⟨b,off+i * 2+1,none⟩=some (.int .u8 ms[i].2))
section
variable {w w':World} {B B':Nat} {A:Option Addr} {n c:Nat} {ms:List (Int × Int)}
theorem MusV.keep (h:MusV w B A n c ms) (hk:∀ p:Addr,p.block<B→w'.cell? p=w.cell? p):MusV w' B A n c ms:=by
 obtain⟨h1,h2,h3,h4⟩:=h;refine⟨h1,h2,h3,fun hn=>?_⟩;obtain⟨b,off,e,hb,hc⟩:=h4 hn;exact⟨b,off,e,hb,fun i hi=>⟨(hk _ hb).trans (hc i hi).1,(hk _ hb).trans (hc i hi).2⟩⟩
theorem MusV.more (h:MusV w B A n c ms) (hB:B≤B'):MusV w B' A n c ms:=by
 obtain⟨h1,h2,h3,h4⟩:=h;refine⟨h1,h2,h3,fun hn=>?_⟩;obtain⟨b,off,e,hb,hc⟩:=h4 hn
 exact⟨b,off,e,by omega,hc⟩
theorem MusV.below (h:MusV w B A n c ms) (hb:Below B w w'):MusV w' B A n c ms:=h.keep fun _ hp=>hb.cell hp
theorem MusV.len (h:MusV w B A n c ms):ms.length=n:=h.1
end
set_option maxRecDepth 100000 in
set_option maxHeartbeats 2000000 in
theorem put4_any (p2:Nat) (A:Option Addr) (n c:Nat) (ms:List (Int × Int)) (i:Int) (w:World) (hp:w.cell? ⟨p2,0,none⟩=some (.slice A n c)) (ht:MusV w w.heap.size A n c ms) (h0:0≤i):
 Calls Tryz.prog 67 (#[.int .i64 i]++#[.pointer (some ⟨p2,0,none⟩)]) w fun e w'=>e=.returned (.agg #[.int .i64 (putM ms i).1,.int .u8 (putM ms i).2])∧Below w.heap.size w w':=by
 have hlen:=ht.len;have m63:n≤9223372036854775807:=Nat.le_trans ht.2.1 ht.2.2.1;have hbx:=below_box (w:=w) (Obj.cells #[.int .i64 0,.int .u8 0] 24);have hy:=blk_new w #[.int .i64 0,.int .u8 0] 24;have hL:=(ht.below hbx).more hbx.size;have hp1:=(hbx.cell (p:=⟨p2,0,none⟩) (block_lt_of_cell hp)).trans hp;have s0:=hy.frozen 0;have s1:=hy.frozen 1;have r0:=hy.cell 0;have r1:=hy.cell 1;obtain⟨V,hV⟩:∃ V,(putM ms i).1=V:=⟨_,rfl⟩;obtain⟨C,hC⟩:∃ C,(putM ms i).2=C:=⟨_,rfl⟩;rw[hV,hC]
 by_cases hi:i<n
 · have d0:decide (i<n)=true:=by simpa using hi
   have hi':i.toNat<ms.length:=by omega
   have hv:putM ms i=ms[i.toNat]:=by unfold putM; rw[if_pos (by omega),List.getD_eq_getElem?_getD,qj hi']; rfl
   rw[hv] at hV hC;obtain⟨b,off,rfl,hb,hc⟩:=hL.2.2.2 (by omega);obtain⟨e0,e1⟩:=hc i.toNat hi';rw[hV] at e0;rw[hC] at e1;have Hbx:=qq hbx;clear ht hbx hL hp hc hv hV hC
   go_enter Tryz.func67,Tryz.ntmps67
   go_wp2_with fail;have hb9:=(Hbx.out.setCell (p:=⟨w.heap.size,0,none⟩) (Nat.le_refl _) (.int .i64 V)).setCell (p:=⟨w.heap.size,1,none⟩) (Nat.le_refl _) (.int .u8 C);have hs:Blk (((w.alloc (Obj.cells #[.int .i64 0,.int .u8 0] 24)).setCell ⟨w.heap.size,0,none⟩ (.int .i64 V)).setCell ⟨w.heap.size,1,none⟩ (.int .u8 C)) w.heap.size 24 #[.int .i64 V,.int .u8 C]:=(hy.set_ 0 (.int .i64 V)).set_ 1 (.int .u8 C)
   first
    | exact bodyPost_ret (v:=.agg #[.int .i64 V,.int .u8 C]) (by simp[results,Tryz.results67,go_sem]) rfl ⟨rfl,below_box _⟩
    | exact bodyPost_ret (v:=.agg #[.int .i64 V,.int .u8 C]) (by simp[results,Tryz.results67,go_sem,hs.cell 0,hs.cell 1]) rfl ⟨rfl,hb9⟩
 · have d0:decide (i<n)=false:=by simpa using hi
   have hv:putM ms i=(i,0):=by unfold putM; rw[if_neg (by omega)]
   rw[hv] at hV hC;dsimp only at hV hC
   subst hV; subst hC
   have Hbx:=qq hbx;clear ht hbx hL hp hv hi
   go_enter Tryz.func67,Tryz.ntmps67
   go_wp2_with fail;exact bodyPost_ret (v:=.agg #[.int .i64 i,.int .u8 0]) (by simp[results,Tryz.results67,go_sem]) rfl ⟨rfl,below_box _⟩
theorem put1_any (t:TyD) (A:Option Addr) (m cp:Nat) (w:World) (h:TysV w w.heap.size A m cp t.l):
 Calls Tryz.prog 58 (#[.agg #[.int .u8 t.k,.int .i64 t.n,.int .i64 t.v,.int .u8 t.c,.slice A m cp]]++#[]) w fun e w'=>e=.returned (.bool (mayTE t != 0))∧Below w.heap.size w w':=by
 have hbx:=below_box (w:=w) (Obj.cells #[.int .u8 t.k,.int .i64 t.n,.int .i64 t.v,.int .u8 t.c,.slice A m cp] 27);have hq:=tyMay_any t (.agg #[.int .u8 t.k,.int .i64 t.n,.int .i64 t.v,.int .u8 t.c,.slice A m cp]) _ ⟨A,m,cp,rfl,(h.below hbx).more hbx.size⟩;obtain⟨E,hE⟩:∃ E,mayTE t=E:=⟨_,rfl⟩;rw[hE] at hq ⊢;have Hq:=qq hq;clear hq h hE
 by_cases h0:E=0
 · have d:(E != 0)=false:=by simp[h0]
   rw[d];clear h0
   go_enter Tryz.func58,Tryz.ntmps58
   go_wp2_with fail
   refine Hq.out.mono ?_; rintro e w1 ⟨rfl,hb1⟩
   go_wp2_with fail;go_ret;exact⟨rfl,hbx.trans (hb1.mono hbx.size)⟩
 · have d:(E != 0)=true:=by simp[h0]
   rw[d];clear h0
   go_enter Tryz.func58,Tryz.ntmps58
   go_wp2_with fail
   refine Hq.out.mono ?_; rintro e w1 ⟨rfl,hb1⟩
   go_wp2_with fail;go_ret;exact⟨rfl,hbx.trans (hb1.mono hbx.size)⟩
set_option maxRecDepth 100000 in
set_option maxHeartbeats 1000000 in
theorem indexW (p:TyD→Bool)  (A:Option Addr) (n c:Nat) (ts:List TyD) (w:World) (hr:TysV w w.heap.size A n c ts)
 (he:∀ i (h:i<ts.length) (A':Option Addr) (m' c':Nat) (w':World),Below w.heap.size w w'→TysV w' w'.heap.size A' m' c' ts[i].l →
   Calls Tryz.prog 58 (#[.agg #[.int .u8 ts[i].k,.int .i64 ts[i].n,.int .i64 ts[i].v,.int .u8 ts[i].c,.slice A' m' c']]++#[]) w' fun e w''=>e=.returned (.bool (p ts[i]))∧Below w'.heap.size w' w''):
 Calls Tryz.prog 56 #[.slice A n c,.func (.func 58) #[] #[]] w fun e w'=>e=.returned (.int .i64 (idxT p ts))∧Below w.heap.size w w':=by
 have hlen:=hr.len;have m63:n≤9223372036854775807:=Nat.le_trans hr.2.1 hr.2.2.1;have Hr:=qq hr;have He:=qq he;clear hr he
 go_enter Tryz.func56,Tryz.ntmps56
 go_wp2_with fail
 go_loopg [5,8] n (fun g _ i wr=>∃ k:Nat,k≤n∧g=n - k∧i=.int .i64 k∧(∀ j (h:j<ts.length),j<k→p ts[j]=false)∧Below w.heap.size w wr)
 case atStart=>exact⟨0,Nat.zero_le _,rfl,rfl,fun j _ h=>absurd h (by omega),Below.refl _ _⟩
 case round=>
  obtain⟨k,hk,rfl,rfl,hno,hbel⟩:=hrel;have Hno:=qq hno;have Hbel:=qq hbel;clear hno
  by_cases hkn:k<n
  · have d0:decide (k<n)=true:=by simpa using hkn
    have hk':k<ts.length:=by omega
    obtain⟨b,off,rfl,hb,hc⟩:=(Hr.out.below hbel).at_ (by omega);obtain⟨e0,e1,e2,e3,Ax,mx,cx,e4,hx⟩:=tyAt_iff.1 (hc k hk');have hq:=He.out k hk' Ax mx cx wr hbel (hx.more hbel.size);obtain⟨P,hP⟩:∃ P,p ts[k]=P:=⟨_,rfl⟩;rw[hP] at hq;have HP:=qq hP;obtain⟨x,hxk⟩:∃ x,ts[k]=x:=⟨_,rfl⟩;rw[hxk] at e0 e1 e2 e3 hx hq;have Hq:=qq hq
    have k1:(0:Int)≤(k:Int):=by omega
    have k2:(k:Int)<n:=by omega
    clear hc hx hxk hq hP hbel
    cases P with
    | false=>
      have hno2:∀ j (h:j<ts.length),j<k+1→p ts[j]=false:=fun j hj hjk=>by
       rcases Nat.lt_or_ge j k with h | h
       · exact Hno.out j hj h
       · have:j=k:=by omega
         subst this;exact HP.out
      have Hno2:=qq hno2;clear hno2;go_wp2_with fail
      refine Hq.out.mono ?_; rintro e w1 ⟨rfl,hb1⟩
      have Hb1:=qq (Hbel.out.trans (hb1.mono Hbel.out.size));clear hb1;go_wp2_with fail;go_roundg (n - (k+1))
      case measure=>omega
      case rel=>exact⟨k+1,by omega,rfl,by go_num,Hno2.out,Hb1.out⟩
    | true=>
      have HF:Hid ((k:Int)=idxT p ts):=qq (idxT_some hk' Hno.out HP.out).symm;go_wp2_with fail
      refine Hq.out.mono ?_; rintro e w1 ⟨rfl,hb1⟩
      have Hb1:=qq (Hbel.out.trans (hb1.mono Hbel.out.size));clear hb1;go_wp2_with fail;go_ret;exact⟨ret_int HF.out,Hb1.out⟩
  · have d0:decide (k<n)=false:=by simpa using hkn
    have HF:Hid (-1=idxT p ts):=qq (idxT_none (fun j hj=>Hno.out j hj (by omega))).symm;go_wp2_with fail;go_ret;exact⟨ret_int HF.out,Hbel.out⟩
set_option maxRecDepth 100000 in
theorem containsW (p:TyD→Bool)  (A:Option Addr) (n c:Nat) (ts:List TyD) (w:World) (hr:TysV w w.heap.size A n c ts)
 (he:∀ i (h:i<ts.length) (A':Option Addr) (m' c':Nat) (w':World),Below w.heap.size w w'→TysV w' w'.heap.size A' m' c' ts[i].l →
   Calls Tryz.prog 58 (#[.agg #[.int .u8 ts[i].k,.int .i64 ts[i].n,.int .i64 ts[i].v,.int .u8 ts[i].c,.slice A' m' c']]++#[]) w' fun e w''=>e=.returned (.bool (p ts[i]))∧Below w'.heap.size w' w'') (r:Bool) (hr2:ts.any p=r):
 Calls Tryz.prog 17 #[.slice A n c,.func (.func 58) #[] #[]] w fun e w'=>e=.returned (.bool r)∧Below w.heap.size w w':=by
 have hi:=indexW p  A n c ts w hr he;have hd:=idxT_any p ts;rw[hr2] at hd;obtain⟨z,hz⟩:∃ z,idxT p ts=z:=⟨_,rfl⟩;rw[hz] at hi hd;have Hi:=qq hi;clear hi hz hr he hr2
 cases r with
 | true=>
   go_enter Tryz.func17,Tryz.ntmps17
   go_wp2_with fail
   refine Hi.out.mono ?_; rintro e w1 ⟨rfl,hb1⟩
   go_wp2_with fail;go_ret;exact⟨rfl,hb1⟩
 | false=>
   go_enter Tryz.func17,Tryz.ntmps17
   go_wp2_with fail
   refine Hi.out.mono ?_; rintro e w1 ⟨rfl,hb1⟩
   go_wp2_with fail;go_ret;exact⟨rfl,hb1⟩
theorem put2_any (V C:Int) (r:Bool) (hr:(!isB C V)=r) (w:World):
 Calls Tryz.prog 60 #[.agg #[.int .i64 V,.int .u8 C]] w fun e w'=>e=.returned (.bool r)∧Below w.heap.size w w':=by
 have hbx:=below_box (w:=w) (Obj.cells #[.int .i64 V,.int .u8 C] 24)
 cases r with
 | true=>
   have hq:=is_at C V 2 (isE_no (by simpa using hr)) (w.alloc (Obj.cells #[.int .i64 V,.int .u8 C] 24));have Hq:=qq hq;clear hq hr
   go_enter Tryz.func60,Tryz.ntmps60
   go_wp2_with fail
   refine Hq.out.mono ?_; rintro e w1 ⟨rfl,hb1⟩
   go_wp2_with fail;go_ret;exact⟨rfl,hbx.trans (hb1.mono hbx.size)⟩
 | false=>
   have hq:=is_at C V 0 (isE_yes (by simpa using hr)) (w.alloc (Obj.cells #[.int .i64 V,.int .u8 C] 24));have Hq:=qq hq;clear hq hr
   go_enter Tryz.func60,Tryz.ntmps60
   go_wp2_with fail
   refine Hq.out.mono ?_; rintro e w1 ⟨rfl,hb1⟩
   go_wp2_with fail;go_ret;exact⟨rfl,hbx.trans (hb1.mono hbx.size)⟩
set_option maxRecDepth 100000 in
set_option maxHeartbeats 1000000 in
theorem indexMu (A:Option Addr) (n c:Nat) (ms:List (Int × Int)) (w:World) (hr:MusV w w.heap.size A n c ms):
 Calls Tryz.prog 120 #[.slice A n c,.func (.func 60) #[] #[]] w fun e w'=>∃ z:Int,e=.returned (.int .i64 z)∧decide (z≥0)=ms.any (fun x=>!isB x.2 x.1)∧Below w.heap.size w w':=by
 have hlen:=hr.len;have m63:n≤9223372036854775807:=Nat.le_trans hr.2.1 hr.2.2.1;have Hr:=qq hr;clear hr
 go_enter Tryz.func120,Tryz.ntmps120
 go_wp2_with fail
 go_loopg [5,8] n (fun g _ i wr=>∃ k:Nat,k≤n∧g=n - k∧i=.int .i64 k∧(∀ j (h:j<ms.length),j<k→isB ms[j].2 ms[j].1=true)∧Below w.heap.size w wr)
 case atStart=>exact⟨0,Nat.zero_le _,rfl,rfl,fun j _ h=>absurd h (by omega),Below.refl _ _⟩
 case round=>
  obtain⟨k,hk,rfl,rfl,hno,hbel⟩:=hrel;have Hno:=qq hno;have Hbel:=qq hbel;clear hno
  by_cases hkn:k<n
  · have d0:decide (k<n)=true:=by simpa using hkn
    have hk':k<ms.length:=by omega
    obtain⟨b,off,rfl,hb,hc⟩:=(Hr.out.below hbel).2.2.2 (by omega);obtain⟨e0,e1⟩:=hc k hk';obtain⟨P,hP⟩:∃ P,(!isB ms[k].2 ms[k].1)=P:=⟨_,rfl⟩;have hq:=put2_any ms[k].1 ms[k].2 P hP wr;have Hq:=qq hq;have HP:=qq hP
    have k1:(0:Int)≤(k:Int):=by omega
    have k2:(k:Int)<n:=by omega
    clear hc hq hP hbel
    cases P with
    | false=>
      have hno2:∀ j (h:j<ms.length),j<k+1→isB ms[j].2 ms[j].1=true:=fun j hj hjk=>by
       rcases Nat.lt_or_ge j k with h | h
       · exact Hno.out j hj h
       · have:j=k:=by omega
         subst this;have:=HP.out
         simpa using this
      have Hno2:=qq hno2;clear hno2;go_wp2_with fail
      refine Hq.out.mono ?_; rintro e w1 ⟨rfl,hb1⟩
      have Hb1:=qq (Hbel.out.trans (hb1.mono Hbel.out.size));clear hb1;go_wp2_with fail;go_roundg (n - (k+1))
      case measure=>omega
      case rel=>exact⟨k+1,by omega,rfl,by go_num,Hno2.out,Hb1.out⟩
    | true=>
      have HF:Hid (decide ((k:Int)≥0)=ms.any (fun x=>!isB x.2 x.1)):=qq (by
       rw[decide_eq_true (by omega)]
       exact(List.any_eq_true.2 ⟨_,List.getElem_mem hk',HP.out⟩).symm)
      go_wp2_with fail
      refine Hq.out.mono ?_; rintro e w1 ⟨rfl,hb1⟩
      have Hb1:=qq (Hbel.out.trans (hb1.mono Hbel.out.size));clear hb1;go_wp2_with fail;go_ret;exact⟨(k:Int),rfl,HF.out,Hb1.out⟩
  · have d0:decide (k<n)=false:=by simpa using hkn
    have HF:Hid (decide ((-1:Int)≥0)=ms.any (fun x=>!isB x.2 x.1)):=qq (by
     have:ms.any (fun x=>!isB x.2 x.1)=false:=by
      rw[List.any_eq_false];intro x hx;obtain⟨j,hj,rfl⟩:=List.getElem_of_mem hx;simp[Hno.out j hj (by omega)]
     rw[this]; rfl)
    go_wp2_with fail;go_ret;exact⟨-1,rfl,HF.out,Hbel.out⟩
set_option maxRecDepth 100000 in
theorem containsMu (A:Option Addr) (n c:Nat) (ms:List (Int × Int)) (w:World) (hr:MusV w w.heap.size A n c ms) (r:Bool) (hr2:ms.any (fun x=>!isB x.2 x.1)=r):
 Calls Tryz.prog 59 #[.slice A n c,.func (.func 60) #[] #[]] w fun e w'=>e=.returned (.bool r)∧Below w.heap.size w w':=by
 have hi:=indexMu A n c ms w hr;rw[hr2] at hi;have Hi:=qq hi;clear hi hr hr2
 cases r with
 | true=>
   go_enter Tryz.func59,Tryz.ntmps59
   go_wp2_with fail
   refine Hi.out.mono ?_; rintro e w1 ⟨z,rfl,hz,hb1⟩
   go_wp2_with fail;go_ret;exact⟨rfl,hb1⟩
 | false=>
   go_enter Tryz.func59,Tryz.ntmps59
   go_wp2_with fail
   refine Hi.out.mono ?_; rintro e w1 ⟨z,rfl,hz,hb1⟩
   go_wp2_with fail;go_ret;exact⟨rfl,hb1⟩
end Go.Proofs.YtdmakpmbknindaaGreatDoor
